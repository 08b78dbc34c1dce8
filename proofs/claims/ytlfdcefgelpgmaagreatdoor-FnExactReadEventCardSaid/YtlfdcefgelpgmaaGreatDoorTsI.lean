/-
  l06Steps of the reference: what it returns. Conditions: each theorem's own.
-/
import Derived.Test.YtlfdcefgelpgmaaGreatDoorTsH
set_option linter.unusedVariables false
set_option linter.unusedSimpArgs false
namespace Go.Proofs.YtlfdcefgelpgmaaGreatDoor.TsI
open Go.ChangeShapes Go.WideShapes Go.ChangeAt Go.RowKit Base Ints Own JoinN PlP TxP Num Bd1 Bd5 RegF RegG TxI

/-- A box is made (operation 9) and a step written into it (10). -/
structure RsF (w1 : World) (s : Stp) (p9 p10 : Prop) (v9 : Value) (w' : World) : Prop where
  bel : Below w1.heap.size w1 w'
  f9 : p9 → ∃ g, v9 = .pointer (some ⟨g, 0, none⟩) ∧ w1.heap.size ≤ g ∧ ∃ a b c d, RowB w' g 91 [a, b, c, d]
  f10 : p10 → ∃ g, v9 = .pointer (some ⟨g, 0, none⟩) ∧ w1.heap.size ≤ g ∧ RowB w' g 91 [.int .i64 s.1, .int .i64 s.2.1, .int .i64 s.2.2.1, .bool s.2.2.2]
theorem RsF.skip {w1 w' : World} {s : Stp} {L : Nat → Prop} {vals : Nat → Value} (F : RsF w1 s (L 9) (L 10) (vals 9) w') (k : Nat) (z : Value) (h9 : 9 ≠ k) (h10 : 10 ≠ k) : RsF w1 s (9 = k ∨ L 9) (10 = k ∨ L 10) (upd vals k z 9) w' := by
  rw [or_ne h9, or_ne h10, upd_ne h9]; exact F
theorem RsF.below {w1 w' w'' : World} {s : Stp} {p9 p10 : Prop} {v9 : Value} (F : RsF w1 s p9 p10 v9 w') (hb : Below w'.heap.size w' w'') : RsF w1 s p9 p10 v9 w'' :=
  ⟨F.bel.trans (hb.mono F.bel.size), fun h => by obtain ⟨g, h1, h2, a, b, c, d, h3⟩ := F.f9 h; exact ⟨g, h1, h2, a, b, c, d, h3.below hb h3.lt⟩, fun h => by obtain ⟨g, h1, h2, h3⟩ := F.f10 h; exact ⟨g, h1, h2, h3.below hb h3.lt⟩⟩
theorem RsF.s9 {w1 w' : World} {s : Stp} {p9 p10 : Prop} {v9 : Value} (F : RsF w1 s p9 p10 v9 w') (n10 : ¬ p10) {a b c d : Value} : RsF w1 s True p10 (.pointer (some ⟨w'.heap.size, 0, none⟩)) (w'.alloc (.cells #[a, b, c, d] 91)) :=
  ⟨F.bel.alloc F.bel.size _, fun _ => ⟨_, rfl, F.bel.size, a, b, c, d, RowB.new _ _ _⟩, fun h => absurd h n10⟩
theorem RsF.s10 {w1 w' : World} {s : Stp} {p9 p10 : Prop} {v9 a b c d : Value} {g : Nat} (F : RsF w1 s p9 p10 v9 w') (hv : v9 = .pointer (some ⟨g, 0, none⟩)) (hg : w1.heap.size ≤ g) (h : RowB w' g 91 [a, b, c, d]) :
    RsF w1 s p9 True v9 ((((w'.setCell ⟨g, 0, none⟩ (.int .i64 s.1)).setCell ⟨g, 1, none⟩ (.int .i64 s.2.1)).setCell ⟨g, 2, none⟩ (.int .i64 s.2.2.1)).setCell ⟨g, 3, none⟩ (.bool s.2.2.2)) := by
  have h2 := four h (.int .i64 s.1) (.int .i64 s.2.1) (.int .i64 s.2.2.1) (.bool s.2.2.2)
  exact ⟨below_four F.bel hg _ _ _ _, fun _ => ⟨g, hv, hg, _, _, _, _, h2⟩, fun _ => ⟨g, hv, hg, h2⟩⟩
set_option maxHeartbeats 4000000 in
set_option maxRecDepth 100000 in
theorem rsteps_s (v : Vr) (hv : okV v = true) (t : By) (hl : t.length ≤ 4194304) (w : World) :
    Calls Tryz.prog 79 #[.agg #[.int .i64 v.p, .int .i64 v.c, .int .i64 v.h, .int .i64 v.s], .string (bs t)] w fun e w' => ∃ sv, e = .returned (.tuple #[sv, .bool (rdSs v t).isSome]) ∧ OwnS w' w.heap.size w'.heap.size 91 4 enSt sv ((rdSs v t).getD []) ∧ Below w.heap.size w w' := by
  obtain ⟨i4, hi4, hz0, hz1, hz2⟩ := info_parts infoSt
  obtain ⟨R, hR⟩ : ∃ r, rdSs v t = r := ⟨_, rfl⟩
  rw [hR]
  have HR := Lib.hid hR
  have CS := Lib.hid (fun (w9 : World) => split_s t 32 32 rfl hl w9)
  have CR := Lib.hid (fun (x : By) (hx : x.length ≤ 4194304) (w9 : World) => rstep_s v hv x hx w9)
  have HW := Lib.hid (fun x hx => Nat.le_trans (spl_word 32 t x hx) hl)
  obtain ⟨ws, hws⟩ : ∃ x, spl 32 t = x := ⟨_, rfl⟩
  obtain ⟨n, hn⟩ : ∃ n, ws.length = n := ⟨_, rfl⟩
  have hnl := spl_len 32 t
  rw [hws, hn] at hnl
  rw [hws] at CS HW
  have HWS := Lib.hid hws
  have HN := Lib.hid hn
  clear hR hv hws hn
  go_enter Tryz.func79, Tryz.ntmps79
  go_upto_region 1 with (fail)
  refine wp_gen (fun W' => Below w.heap.size w W' ∧ RowB W' w.heap.size 25 [.int .i64 v.p, .int .i64 v.c, .int .i64 v.h, .int .i64 v.s]) ⟨by go_grown, RowB.new _ _ _⟩ ?_
  rintro w1 ⟨hb1, rv⟩
  go_upto_region 2 with (fail)
  refine wp_gen (fun W' => Below w.heap.size w W' ∧ RowB W' w.heap.size 25 [.int .i64 v.p, .int .i64 v.c, .int .i64 v.h, .int .i64 v.s] ∧ OwnS W' (w.heap.size + 1) W'.heap.size 91 4 enSt (.slice (some ⟨w1.heap.size, 0, none⟩) 0 0) []) ⟨hb1.alloc hb1.size _, rv.alloc _, (RowB.new w1 91 []).own (xs := ([] : List Stp)) (en := enSt) enSt_len rv.lt (by simp) (by decide)⟩ ?_
  clear hb1 rv
  rintro w2 ⟨hb1, rv, ho⟩
  obtain ⟨g1, hg1⟩ : ∃ g, w1.heap.size = g := ⟨_, rfl⟩
  rw [hg1] at ho ⊢
  clear hg1
  by_cases h45 : t = [45]
  · have hR : R = some [] := by rw [← HR.out]; unfold rdSs; rw [if_pos h45]
    have e1 : ((bs t).toList == [45]) = true := by rw [ByteArray.toList_eq, bs_data, h45]; rfl
    subst hR
    clear h45
    go_wp2_with fail
    go_ret2
    exact ⟨_, rfl, ho.less (by omega), hb1⟩
  have e1 : ((bs t).toList == [45]) = false := by rw [ByteArray.toList_eq, bs_data]; exact beq_eq_false_iff_ne.2 h45
  go_wp2_with fail
  refine (CS.out _).mono ?_
  rintro e w3 ⟨sw, rfl, hos, hb3⟩
  have hb3' := hb1.trans (hb3.mono hb1.size)
  have hwl2 : w.heap.size + 1 ≤ w2.heap.size := rv.lt
  have rv := rv.below hb3 rv.lt
  have hwl : w.heap.size + 1 ≤ w3.heap.size := rv.lt
  have hg2 : g1 < w2.heap.size := (ho.block g1 rfl).2
  have ho := (ho.below hb3 (Nat.le_refl _)).more hb3.size
  obtain ⟨Aw, cp, hsw, -⟩ := hos.form enBs_len
  rw [HN.out] at hsw
  subst hsw
  have HRW := Lib.hid (hos.less hwl2)
  have HA := Lib.hid (show Apart (.slice Aw n cp) (.slice (some ⟨g1, 0, none⟩) 0 0) from fun g hg he => by
    have h1 := (hos.block g hg).1
    have h2 : g1 = g := by simpa [Value.ownBlock] using he
    omega)
  clear hos hb1 hb3
  by_cases h4 : 4 < n
  · have hR : R = none := by rw [← HR.out]; unfold rdSs; rw [if_neg h45, HWS.out, HN.out, if_pos h4]
    have d4 : decide ((4 : Int) < (n : Int)) = true := decide_eq_true (by omega)
    subst hR
    clear h45 h4
    go_wp2_with fail
    go_ret2
    exact ⟨_, rfl, ho.less (by omega), hb3'⟩
  have HM : Hid (R = mapO (rdI v) ws) := by show _ = _; rw [← HR.out]; unfold rdSs; rw [if_neg h45, HWS.out, HN.out, if_neg h4]
  have d4 : decide ((4 : Int) < (n : Int)) = false := decide_eq_false (by omega)
  have hn4 : n ≤ 4 := by omega
  have HB3 := Lib.hid hb3'
  have RV3 := Lib.hid rv
  have HO3 := Lib.hid ho
  clear h45 e1 HR h4 HWS hnl hb3' rv ho hwl2 hg2 hwl
  go_wp2_with fail
  go_loopw [6, 8, 10] (fun vl i _ wr => ∃ (k : Nat) (X : List Stp), k ≤ n ∧ i = .int .i64 (k : Int) ∧ Hid (Below w.heap.size w wr) ∧ RowB wr w.heap.size 25 [.int .i64 v.p, .int .i64 v.c, .int .i64 v.h, .int .i64 v.s] ∧ Hid (OwnS wr (w.heap.size + 1) wr.heap.size 9 1 enBs (.slice Aw n cp) ws) ∧ Hid (Apart (.slice Aw n cp) vl) ∧ Hid (OwnS wr (w.heap.size + 1) wr.heap.size 91 4 enSt vl X) ∧ Hid (mapO (rdI v) (ws.take k) = some X) ∧ X.length = k) (fun _ i _ _ => n - (intOf i).toNat)
  case atStart => exact ⟨0, [], Nat.zero_le _, rfl, HB3, RV3.out, HRW, HA, HO3, Lib.hid rfl, rfl⟩
  case round =>
    obtain ⟨k, X, hk, rfl, hb, rv, hrw, ha, ho, hX, hXk⟩ := hrel
    clear d4
    obtain ⟨Av, cv, hvl, _⟩ := ho.out.form enSt_len
    rw [hXk] at hvl
    subst hvl
    by_cases hlt : k < n
    · obtain ⟨b, off, x, rfl, hbb, hxk, hc⟩ : ∃ b off x, Aw = some ⟨b, off, none⟩ ∧ b < wr.heap.size ∧ ws[k]? = some x ∧ wr.cell? ⟨b, off + k, none⟩ = some (.string (bs x)) := by
        obtain ⟨A8, c8, h8, r8⟩ := hrw.out.form enBs_len
        simp only [Value.slice.injEq] at h8
        obtain ⟨rfl, -, -⟩ := h8
        exact rdBs_at r8 (by rw [HN.out]; exact hlt)
      have HX := Lib.hid hxk
      have hxm := HW.out x (List.mem_of_getElem? hxk)
      have CX := Lib.hid (fun (w9 : World) => CR.out x hxm w9)
      obtain ⟨⟨s, ok⟩, hq⟩ : ∃ q, optS (rdI v x) = q := ⟨_, rfl⟩
      rw [hq] at CX
      have HQ := Lib.hid (optS_inv hq)
      have hlv := rv.lt
      have HC := Lib.hid hc
      clear hxm hq hxk hc
      go_upto_region 10 with (fail)
      refine region_rel [some 28, some 29, some 30, some 31, some 32, some 33, some 27, some 34, some 35, some 9, none, some 10] 12 (Pl [some (.agg #[.int .i64 v.p, .int .i64 v.c, .int .i64 v.h, .int .i64 v.s]), some (.slice (some ⟨b, off, none⟩) n cp), some (.int .i64 (k : Int)), some (.pointer (some ⟨b, off + k, none⟩)), some (.string (bs x)), some (.tuple #[.agg #[.int .i64 s.1, .int .i64 s.2.1, .int .i64 s.2.2.1, .bool s.2.2.2], .bool ok]), some (.tuple #[.agg #[.int .i64 s.1, .int .i64 s.2.1, .int .i64 s.2.2.1, .bool s.2.2.2], .bool ok]), some (.agg #[.int .i64 s.1, .int .i64 s.2.1, .int .i64 s.2.2.1, .bool s.2.2.2]), some (.bool ok), none, none, some (.bool ok)]) (fun L vals w' => RsF wr s (L 9) (L 10) (vals 9) w') (by kernel_rfl) (by kernel_rfl) (by kernel_rfl) (by kernel_rfl) (by kernel_rfl) (by kernel_rfl) (by kernel_rfl) ?g0_1 ?gst_1 ?gfin_1
      case g0_1 => exact ⟨(Below.refl _ _).drew, fun h => absurd h (by decide), fun h => absurd h (by decide)⟩
      case gst_1 =>
        refine RelFrom.run rfl (fun L vals A w9 hno hdl hcl hu hp h0 F K hK => ?_) ?_
        · have e2 : A.tmps[2]?.getD undef = .pointer (some ⟨w.heap.size, 0, none⟩) := h0 2 (fun j _ hj => absurd (List.mem_of_getElem? hj) (by decide))
          clear hu h0 hp
          have rw_ := rv.below F.bel hlv
          have rq := rw_.c4
          have q0 := rq.1
          have q1 := rq.2.1
          have q2 := rq.2.2.1
          have q3 := rq.2.2.2
          have hcc := (F.bel.cell (p := ⟨b, off + k, none⟩) hbb).trans HC.out
          clear rw_ rq
          go_simp
          exact hK.out _ w9 (Pl.fix rfl) (F.skip 0 _ (by decide) (by decide))
        refine RelFrom.run rfl (fun L vals A w9 hno hdl hcl hu hp h0 F K hK => ?_) ?_
        · have e7 : A.tmps[7]?.getD undef = .slice (some ⟨b, off, none⟩) n cp := h0 7 (fun j _ hj => absurd (List.mem_of_getElem? hj) (by decide))
          clear hu h0 hp
          have rw_ := rv.below F.bel hlv
          have rq := rw_.c4
          have q0 := rq.1
          have q1 := rq.2.1
          have q2 := rq.2.2.1
          have q3 := rq.2.2.2
          have hcc := (F.bel.cell (p := ⟨b, off + k, none⟩) hbb).trans HC.out
          clear rw_ rq
          go_simp
          exact hK.out _ w9 (Pl.fix rfl) (F.skip 1 _ (by decide) (by decide))
        refine RelFrom.run rfl (fun L vals A w9 hno hdl hcl hu hp h0 F K hK => ?_) ?_
        · have e8 : A.tmps[8]?.getD undef = .int .i64 (k : Int) := h0 8 (fun j _ hj => absurd (List.mem_of_getElem? hj) (by decide))
          clear hu h0 hp
          have rw_ := rv.below F.bel hlv
          have rq := rw_.c4
          have q0 := rq.1
          have q1 := rq.2.1
          have q2 := rq.2.2.1
          have q3 := rq.2.2.2
          have hcc := (F.bel.cell (p := ⟨b, off + k, none⟩) hbb).trans HC.out
          clear rw_ rq
          go_simp
          exact hK.out _ w9 (Pl.fix rfl) (F.skip 2 _ (by decide) (by decide))
        refine RelFrom.run rfl (fun L vals A w9 hno hdl hcl hu hp h0 F K hK => ?_) ?_
        · have e29 : A.tmps[29]?.getD undef = .slice (some ⟨b, off, none⟩) n cp := (hu 1 29 (by kernel_rfl) rfl).trans (hp 1 (by kernel_rfl) _ rfl)
          have e30 : A.tmps[30]?.getD undef = .int .i64 (k : Int) := (hu 2 30 (by kernel_rfl) rfl).trans (hp 2 (by kernel_rfl) _ rfl)
          clear hu h0 hp
          have rw_ := rv.below F.bel hlv
          have rq := rw_.c4
          have q0 := rq.1
          have q1 := rq.2.1
          have q2 := rq.2.2.1
          have q3 := rq.2.2.2
          have hcc := (F.bel.cell (p := ⟨b, off + k, none⟩) hbb).trans HC.out
          clear rw_ rq
          go_simp
          exact hK.out _ w9 (Pl.fix rfl) (F.skip 3 _ (by decide) (by decide))
        refine RelFrom.run rfl (fun L vals A w9 hno hdl hcl hu hp h0 F K hK => ?_) ?_
        · have e31 : A.tmps[31]?.getD undef = .pointer (some ⟨b, off + k, none⟩) := (hu 3 31 (by kernel_rfl) rfl).trans (hp 3 (by kernel_rfl) _ rfl)
          clear hu h0 hp
          have rw_ := rv.below F.bel hlv
          have rq := rw_.c4
          have q0 := rq.1
          have q1 := rq.2.1
          have q2 := rq.2.2.1
          have q3 := rq.2.2.2
          have hcc := (F.bel.cell (p := ⟨b, off + k, none⟩) hbb).trans HC.out
          clear rw_ rq
          go_simp
          exact hK.out _ w9 (Pl.fix rfl) (F.skip 4 _ (by decide) (by decide))
        refine RelFrom.run rfl (fun L vals A w9 hno hdl hcl hu hp h0 F K hK => ?_) ?_
        · have e28 : A.tmps[28]?.getD undef = .agg #[.int .i64 v.p, .int .i64 v.c, .int .i64 v.h, .int .i64 v.s] := (hu 0 28 (by kernel_rfl) rfl).trans (hp 0 (by kernel_rfl) _ rfl)
          have e32 : A.tmps[32]?.getD undef = .string (bs x) := (hu 4 32 (by kernel_rfl) rfl).trans (hp 4 (by kernel_rfl) _ rfl)
          clear hu h0 hp
          go_simp
          refine (CX.out w9).mono ?_
          rintro e w6 ⟨rfl, hb6⟩
          exact hK.out _ w6 (Pl.fix rfl) ((F.below hb6).skip 5 _ (by decide) (by decide))
        refine RelFrom.run rfl (fun L vals A w9 hno hdl hcl hu hp h0 F K hK => ?_) ?_
        · have e33 : A.tmps[33]?.getD undef = .tuple #[.agg #[.int .i64 s.1, .int .i64 s.2.1, .int .i64 s.2.2.1, .bool s.2.2.2], .bool ok] := (hu 5 33 (by kernel_rfl) rfl).trans (hp 5 (by kernel_rfl) _ rfl)
          clear hu h0 hp
          have rw_ := rv.below F.bel hlv
          have rq := rw_.c4
          have q0 := rq.1
          have q1 := rq.2.1
          have q2 := rq.2.2.1
          have q3 := rq.2.2.2
          have hcc := (F.bel.cell (p := ⟨b, off + k, none⟩) hbb).trans HC.out
          clear rw_ rq
          go_simp
          exact hK.out _ w9 (Pl.fix rfl) (F.skip 6 _ (by decide) (by decide))
        refine RelFrom.run rfl (fun L vals A w9 hno hdl hcl hu hp h0 F K hK => ?_) ?_
        · have e27 : A.tmps[27]?.getD undef = .tuple #[.agg #[.int .i64 s.1, .int .i64 s.2.1, .int .i64 s.2.2.1, .bool s.2.2.2], .bool ok] := (hu 6 27 (by kernel_rfl) rfl).trans (hp 6 (by kernel_rfl) _ rfl)
          clear hu h0 hp
          have rw_ := rv.below F.bel hlv
          have rq := rw_.c4
          have q0 := rq.1
          have q1 := rq.2.1
          have q2 := rq.2.2.1
          have q3 := rq.2.2.2
          have hcc := (F.bel.cell (p := ⟨b, off + k, none⟩) hbb).trans HC.out
          clear rw_ rq
          go_simp
          exact hK.out _ w9 (Pl.fix rfl) (F.skip 7 _ (by decide) (by decide))
        refine RelFrom.run rfl (fun L vals A w9 hno hdl hcl hu hp h0 F K hK => ?_) ?_
        · have e27 : A.tmps[27]?.getD undef = .tuple #[.agg #[.int .i64 s.1, .int .i64 s.2.1, .int .i64 s.2.2.1, .bool s.2.2.2], .bool ok] := (hu 6 27 (by kernel_rfl) rfl).trans (hp 6 (by kernel_rfl) _ rfl)
          clear hu h0 hp
          have rw_ := rv.below F.bel hlv
          have rq := rw_.c4
          have q0 := rq.1
          have q1 := rq.2.1
          have q2 := rq.2.2.1
          have q3 := rq.2.2.2
          have hcc := (F.bel.cell (p := ⟨b, off + k, none⟩) hbb).trans HC.out
          clear rw_ rq
          go_simp
          exact hK.out _ w9 (Pl.fix rfl) (F.skip 8 _ (by decide) (by decide))
        refine RelFrom.run rfl (fun L vals A w9 hno hdl hcl hu hp h0 F K hK => ?_) ?_
        · clear hu h0 hp
          go_simp
          exact hK.out _ _ (Pl.any rfl) (by simpa [upd] using F.s9 (fun h => hno (hcl 10 9 (by kernel_rfl) h)))
        refine RelFrom.run rfl (fun L vals A w9 hno hdl hcl hu hp h0 F K hK => ?_) ?_
        · have e9 : A.tmps[9]?.getD undef = vals 9 := hu 9 9 (by kernel_rfl) rfl
          have e34 : A.tmps[34]?.getD undef = .agg #[.int .i64 s.1, .int .i64 s.2.1, .int .i64 s.2.2.1, .bool s.2.2.2] := (hu 7 34 (by kernel_rfl) rfl).trans (hp 7 (by kernel_rfl) _ rfl)
          clear hu h0 hp
          have f9 := F.f9 (hdl 9 (by kernel_rfl))
          refine f9.elim fun g q => ?_
          refine q.2.2.elim fun a1 q2 => ?_
          refine q2.elim fun a2 q3 => ?_
          refine q3.elim fun a3 q4 => ?_
          refine q4.elim fun a4 r => ?_
          have e9' := e9.trans q.1
          have rc := r.c4
          have y0 := rc.1
          have y1 := rc.2.1
          have y2 := rc.2.2.1
          have y3 := rc.2.2.2
          have fr := r.frozen
          clear e9 rc q2 q3 q4
          go_simp
          exact hK.out undef _ (Pl.any rfl) (by simpa [upd] using F.s10 q.1 q.2.1 r)
        refine RelFrom.run rfl (fun L vals A w9 hno hdl hcl hu hp h0 F K hK => ?_) ?_
        · have e35 : A.tmps[35]?.getD undef = .bool ok := (hu 8 35 (by kernel_rfl) rfl).trans (hp 8 (by kernel_rfl) _ rfl)
          clear hu h0 hp
          have rw_ := rv.below F.bel hlv
          have rq := rw_.c4
          have q0 := rq.1
          have q1 := rq.2.1
          have q2 := rq.2.2.1
          have q3 := rq.2.2.2
          have hcc := (F.bel.cell (p := ⟨b, off + k, none⟩) hbb).trans HC.out
          clear rw_ rq
          go_simp
          exact hK.out _ w9 (Pl.fix rfl) (F.skip 11 _ (by decide) (by decide))
        exact RelFrom.nil (by decide)
      intro vals w9 hp F
      simp only [Fr, Act.put, List.setIfInBounds_toArray, List.set_cons_zero, List.set_cons_succ, Nat.reduceAdd]
      have h11 : vals 11 = .bool ok := hp 11 (by decide) _ rfl
      rw [h11]
      obtain ⟨g, hv9, hgg, rg⟩ := F.f10 trivial
      rw [hv9]
      have hb9 := hb.out.trans (F.bel.mono hb.out.size)
      have rv9 := rv.below F.bel hlv
      have hrw9 := (hrw.out.below F.bel (Nat.le_refl _)).more F.bel.size
      have ho9 := (ho.out.below F.bel (Nat.le_refl _)).more F.bel.size
      have hs9 := F.bel.size
      clear F hp h11 hv9 hrw ho CX rv hlv HC
      cases ok
      case false =>
        have hno : rdI v x = none := HQ.out
        have hR : R = none := by rw [HM.out]; exact mapO_none hno _ (List.mem_of_getElem? HX.out)
        subst hR
        clear HM hno
        go_wp2_with fail
        go_ret2
        refine ⟨_, rfl, ?_, ?_⟩
        · exact (RowB.new w9 91 []).own (xs := ([] : List Stp)) (en := enSt) enSt_len hb9.size (by simp) (by decide)
        · exact hb9.alloc hb9.size _
      have hyes : rdI v x = some s := HQ.out
      have HN1 : Hid (mapO (rdI v) (ws.take (k + 1)) = some (X ++ [s])) := by
        show _ = _
        rw [take_succ ws k x HX.out, mapO_snoc, hX.out]
        simp only [hyes, Option.map_some]
      clear hyes HQ
      obtain ⟨y0, y1, y2, y3⟩ := rg.c4
      have HB9 := Lib.hid hb9
      clear hb9 hb
      go_wp2_with (at_builtin; refine wpL_app rfl _ _ _ rfl (w.heap.size + 1) _ 91 i4 (.agg #[.int .i64 0, .int .i64 0, .int .i64 0, .bool false]) 4 32 Tryz.underlying26 hi4 hz0 hz1 hz2 rfl (by decide) enSt_len one_St (.slice Av k cv) X [s] rfl (ho9.alloc _) ⟨w9.heap.size, 0, none⟩ 1 1 (by first | rfl | (simp; rfl) | (simp [go_sem]; done)) rfl (news_new (RowB.new _ _ _)) (by decide) ?c1 ?c2 ?c3 ?_)
      case c1 => unfold maxLen; omega
      case c2 => omega
      case c3 => have := HB9.out.size; simp; omega
      intro k2 c2 w7 ho7 hg7 hat7 hlt7
      have hrow : ∀ g, (Value.slice Av k cv).ownBlock = some g → w.heap.size + 1 ≤ g := fun g hg => (ho9.block g hg).1
      have hrw7 := (OwnS.far (hrw9.alloc _) hg7 ha.out.symm).more (hi' := w7.heap.size) (by have := hg7.size; simp at this; omega)
      have ha7 : Apart (.slice (some ⟨k2, 0, none⟩) (k + 1) c2) (.slice (some ⟨b, off, none⟩) n cp) := ha.out.symm.app (fun g hg => Nat.lt_of_lt_of_le (hrw9.block g hg).2 (by go_size)) hat7
      have HA7 := Lib.hid ha7.symm
      have rv7 := (rv9.alloc (.cells #[.int .i64 s.1, .int .i64 s.2.1, .int .i64 s.2.2.1, .bool s.2.2.2] 91)).grown hg7 (fun g hg => by have := hrow g hg; omega)
      have hg8 : w9.grownBy w7 (Value.slice Av k cv).ownBlock := below_grown (w := w9) (by go_grown) hg7
      have hbn := Lib.hid (HB9.out.grown hg8 HB9.out.size (fun g hg => by have := hrow g hg; omega))
      have hoN := Lib.hid ho7
      have hrwN := Lib.hid hrw7
      have hXk2 : (X ++ [s]).length = k + 1 := by rw [List.length_append, hXk]; rfl
      obtain ⟨Y, hY⟩ : ∃ Y, X ++ [s] = Y := ⟨_, rfl⟩
      rw [hY] at HN1 hoN hXk2
      clear hg7 hg8 hat7 ho7 hrow hY ha7 hrw7 ho9 hrw9 rv9 y0 y1 y2 y3 ha
      go_wp2_with fail
      go_roundw
      case rel => exact ⟨k + 1, Y, by omega, by first | rfl | trivial | go_num, hbn, rv7, hrwN, HA7, hoN, HN1, hXk2⟩
      case measure => simp [intOf]; omega
    · obtain rfl : k = n := by omega
      have hR : R = some X := by
        rw [HM.out]
        have := hX.out
        rw [List.take_of_length_le (by rw [HN.out]; exact Nat.le_refl _)] at this
        exact this
      subst hR
      clear HM
      go_wp2_with fail
      go_ret2
      exact ⟨_, rfl, ho.out.less (by omega), hb.out⟩
end Go.Proofs.YtlfdcefgelpgmaaGreatDoor.TsI
