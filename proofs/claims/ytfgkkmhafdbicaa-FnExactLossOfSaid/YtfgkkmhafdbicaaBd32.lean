/-
  The loss of a play: of the program and of the reference. Conditions: each theorem's own.
-/
import Derived.Test.YtfgkkmhafdbicaaBd29
import Derived.Test.YtfgkkmhafdbicaaBd31
set_option linter.unusedVariables false
set_option linter.unusedSimpArgs false
namespace Go.Proofs.Ytfgkkmhafdbicaa.Bd32
open Go.ChangeShapes Go.WideShapes Go.ChangeAt Go.RowKit Base Ints Own Clone RelG PlP Bd1 Bd3 Bd3I Bd4 Bd5 Bd6 Bd7 Bd8 Bd9 Bd11 RegInv RegF RegG Bd12 Bd14 Bd15 Bd16 Bd17 Bd18 Bd19 Bd20 Bd21 Bd22 Bd23 Bd24 Bd25 Bd26 Bd27 Bd29 Bd31

def lossP (v : Vr) (d : Nat) (b : Bd) (x y : Int) (k : Nat) : Int := grt (plsP v d b x y) - at_ (plsP v d b x y) k
/-- The loss of the play that leads to a board, if there is one. -/
def lossF (v : Vr) (d : Nat) (b : Bd) (x y : Int) (a : Bd) : Int × Bool := if fdP (allP v b x y).1 a 0 < 0 then (0, false) else (lossP v d b x y (fdP (allP v b x y).1 a 0).toNat, true)
/-- What LossOf returns. -/
def lossR (v : Vr) (b : Bd) (x y : Int) (a : Bd) (d : Int) : Int × Int :=
  if codeT v (okB v b && okB v a) (okR v x y) d = 0 then (if (lossF v d.toNat b x y a).2 = true then ((lossF v d.toNat b x y a).1, 0) else (0, 4)) else (0, codeT v (okB v b && okB v a) (okR v x y) d)
theorem codeT_two (v : Vr) (b a : Bd) (r : Bool) (d : Int) : codeT v (okB v b && okB v a) (okV v && r) d = codeT v (okB v b && okB v a) r d := by
  cases h : okB v a with
  | true => rw [Bool.and_true]; exact codeT_roll v b r d
  | false => rw [Bool.and_false]; unfold codeT; simp
theorem codeT_and (v : Vr) (b a : Bd) (r : Bool) (d : Int) : codeT v (okB v b && okB v a) r d = if codeT v (okB v b) r d ≠ 1 ∧ okB v a = false then 1 else codeT v (okB v b) r d := by
  cases h : okB v a with
  | true => simp
  | false =>
    rw [Bool.and_false]
    by_cases h1 : codeT v (okB v b) r d = 1
    · rw [if_neg (fun hh => hh.1 h1), h1]; unfold codeT; simp
    · rw [if_pos ⟨h1, rfl⟩]; unfold codeT; simp
theorem codeT_zero2 {v : Vr} {b a : Bd} {r : Bool} {d : Int} (h : codeT v (okB v b && okB v a) r d = 0) : codeT v (okB v b) r d = 0 ∧ Ok v a := by
  cases ha : okB v a with
  | true => rw [ha, Bool.and_true] at h; exact ⟨h, okB_iff.1 ha⟩
  | false => rw [ha, Bool.and_false] at h; unfold codeT at h; simp at h
/-- The four boxes of the arguments. -/
structure B4 (w wr : World) (v : Vr) (bs : List Value) (x y : Int) (as_ : List Value) : Prop where
  bel : Below w.heap.size w wr
  rv : RowB wr w.heap.size 32 [.int .i64 v.p, .int .i64 v.c, .int .i64 v.h, .int .i64 v.s]
  rb : RowB wr (w.heap.size + 1) 34 bs
  rr : RowB wr (w.heap.size + 2) 36 [.int .i64 x, .int .i64 y]
  ra : RowB wr (w.heap.size + 3) 34 as_
theorem B4.below {w wr w' : World} {v : Vr} {bs as_ : List Value} {x y : Int} (h : B4 w wr v bs x y as_) (hb : Below wr.heap.size wr w') : B4 w w' v bs x y as_ :=
  ⟨h.bel.trans (hb.mono h.bel.size), h.rv.below hb h.rv.lt, h.rb.below hb h.rb.lt, h.rr.below hb h.rr.lt, h.ra.below hb h.ra.lt⟩
theorem B4.drew {w wr : World} {v : Vr} {bs as_ : List Value} {x y : Int} (h : B4 w wr v bs x y as_) : B4 w wr.drew v bs x y as_ := h.below (Below.refl _ _).drew

set_option maxHeartbeats 8000000 in
set_option maxRecDepth 100000 in
theorem lossOf_i (v : Vr) (b : Bd) (hb : Ok v b) (hp : v.p ≤ 6) (Ao At : Option Addr) (co ct : Nat) (x y : Int) (hx : 1 ≤ x ∧ x ≤ 6) (hy : 1 ≤ y ∧ y ≤ 6) (a : Bd) (ha : Ok v a) (Bo Bt : Option Addr) (do_ dt : Nat) (d : Nat) (hd : d ≤ 1) (w : World)
    (ho : RdS w w.heap.size 1 enI Ao b.1) (ht : RdS w w.heap.size 1 enI At b.2) (hA : Ao = none → co = 0) (hT : At = none → ct = 0) (ko : RdS w w.heap.size 1 enI Bo a.1) (kt : RdS w w.heap.size 1 enI Bt a.2) :
    Calls Try.prog 35 #[.agg #[.int .i64 v.p, .int .i64 v.c, .int .i64 v.h, .int .i64 v.s], .agg #[.slice Ao b.1.length co, .slice At b.2.length ct], .agg #[.int .i64 x, .int .i64 y], .agg #[.slice Bo a.1.length do_, .slice Bt a.2.length dt], .int .i64 (d : Int)] w fun e w' => e = .returned (.tuple #[.int .i64 (lossF v d b x y a).1, .bool (lossF v d b x y a).2]) ∧ Below w.heap.size w w' := by
  have CA := Lib.hid (fun (w9 : World) (h : Below w.heap.size w w9) => allSm_i v b hb hp Ao At co ct x y hx hy w9 ((ho.below h (Nat.le_refl _)).more h.size) ((ht.below h (Nat.le_refl _)).more h.size) hA hT)
  have CP := Lib.hid (fun (w9 : World) (h : Below w.heap.size w w9) => (vals_i d (by omega)).2 v b hb hp Ao At co ct x y hx hy w9 ((ho.below h (Nat.le_refl _)).more h.size) ((ht.below h (Nat.le_refl _)).more h.size) hA hT)
  obtain ⟨P, hP⟩ : ∃ P : Nat, v.p = (P : Int) := ⟨v.p.toNat, by have := hb.v1; omega⟩
  obtain ⟨n, hn⟩ : ∃ n, P + 1 = n := ⟨_, rfl⟩
  have eln : b.1.length = n := by have := hb.own.len; omega
  have emn : b.2.length = n := by have := hb.oth.len; omega
  have ela : a.1.length = n := by have := ha.own.len; omega
  have ema : a.2.length = n := by have := ha.oth.len; omega
  have HLN := Lib.hid (fun (q : Bd) (h : Ok v q) => (⟨by have := h.own.len; omega, by have := h.oth.len; omega⟩ : q.1.length = n ∧ q.2.length = n))
  have hpb := pls_bd (d := d) hb hx.1 hy.1
  have hal := all_len hb hx hy
  have hgb := grt_bd (d := d) hb hx.1 hy.1
  have HPO := Lib.hid (allP_ok (x := x) (y := y) hb hx.1 hy.1).1
  obtain ⟨zs, hzs⟩ : ∃ z, plsP v d b x y = z := ⟨_, rfl⟩
  have hzl : (allP v b x y).1.length = zs.length := by rw [← hzs]; unfold plsP; rw [List.length_map]
  obtain ⟨ps, hps⟩ : ∃ ps, (allP v b x y).1 = ps := ⟨_, rfl⟩
  obtain ⟨Z, hZ⟩ : ∃ z, lossF v d b x y a = z := ⟨_, rfl⟩
  have hZ2 := hZ
  unfold lossF lossP at hZ2
  rw [hps] at CA hzl hZ2 HPO hal
  rw [hzs] at CP hpb hgb hZ2
  rw [hZ]
  obtain ⟨Z1, Z2⟩ := Z
  simp only
  have HZ := Lib.hid hZ2
  have hpl0 := hpb.2
  have HZB := Lib.hid (fun (k : Nat) (h : k < zs.length) => hpb.1 _ (List.mem_of_getElem? (at_get h)))
  have hfg := fg_gr zs (zs.length - 1)
  have hgr : at_ zs (fgP zs) = grt zs := hfg.1
  have hfl : fgP zs < zs.length := by have := hfg.2; show fgU zs (zs.length - 1) < _; omega
  obtain ⟨G, hG⟩ : ∃ g, grt zs = g := ⟨_, rfl⟩
  rw [hG] at hgb hgr HZ
  obtain ⟨fg, hf⟩ : ∃ f, fgP zs = f := ⟨_, rfl⟩
  have CF := Lib.hid (fun (w9 : World) (A : Option Addr) (cp B : Nat) (hr : RdS w9 B 1 enI A zs) => first_i A cp B zs w9 hr hpl0)
  rw [hf] at CF hfl hgr
  obtain ⟨Ln, hL⟩ : ∃ l, zs.length = l := ⟨_, rfl⟩
  have HL := Lib.hid hL
  have HM := Lib.hid (show ps.length = Ln from by rw [hzl, hL])
  have HFL := Lib.hid hfl
  have hGR := Lib.hid hgr
  rw [hL] at hfl CF hpl0
  rw [hzl, hL] at hal
  have hfi : (fg : Int) < (Ln : Int) := by omega
  have KO := Lib.hid ko
  have KT := Lib.hid kt
  have HLA := Lib.hid (⟨ela, ema⟩ : a.1.length = n ∧ a.2.length = n)
  rw [eln, emn] at CA CP ⊢
  rw [ela, ema]
  clear hb hp ho ht hA hT ha ko kt hx hy hpb hzs hps hZ hZ2 hfg hgr hG hf hL hzl eln emn ela ema hP hn
  go_enter Try.func35, Try.ntmps35
  go_upto_region 1 with (fail)
  refine wp_gen (fun W' => B4 w W' v [.slice Ao n co, .slice At n ct] x y [.slice Bo n do_, .slice Bt n dt]) ⟨by go_grown, (((RowB.new _ _ _).alloc _).alloc _).alloc _, RowB.alloc (RowB.alloc (RowB.new' _ _ _ (by simp)) _) _, RowB.alloc (RowB.new' _ _ _ (by simp)) _, RowB.new' _ _ _ (by simp)⟩ ?_
  intro w1 K
  obtain ⟨q0, q1, q2, q3⟩ := K.rv.c4
  obtain ⟨z0, z1⟩ := K.rb.c2
  obtain ⟨r0, r1⟩ := K.rr.c2
  obtain ⟨a0, a1⟩ := K.ra.c2
  have hl1 := K.rv.lt
  have hl2 := K.rb.lt
  have hl3 := K.rr.lt
  have hl4 := K.ra.lt
  go_wp2_with fail
  refine (CA.out w1 K.bel).mono ?_
  rintro e w2 ⟨pv, rfl, hog, hb2⟩
  have K := K.below hb2
  obtain ⟨Aa, ca, hav, -⟩ := Bd19.OwnG.form enP_len hog
  rw [HM.out] at hav
  subst hav
  have HA := hog.sl enP_len (Nat.le_refl _)
  clear q0 q1 q2 q3 z0 z1 r0 r1 a0 a1 hl1 hl2 hl3 hl4 hb2 hog CA
  obtain ⟨q0, q1, q2, q3⟩ := K.rv.c4
  obtain ⟨z0, z1⟩ := K.rb.c2
  obtain ⟨r0, r1⟩ := K.rr.c2
  obtain ⟨a0, a1⟩ := K.ra.c2
  have hl1 := K.rv.lt
  have hl2 := K.rb.lt
  have hl3 := K.rr.lt
  have hl4 := K.ra.lt
  go_wp2_with fail
  refine (CP.out w2 K.bel).mono ?_
  rintro e w3 ⟨vv, rfl, hvo, hb3⟩
  have K := K.below hb3
  have HA := (relSl RelP 3 enP).keep HA (.below hb3)
  obtain ⟨Av, cv, hvv, hvr⟩ := hvo.form enI_len
  rw [HL.out] at hvv
  subst hvv
  obtain ⟨b8, o8, rfl, hb8, hc8⟩ := at_rd hvr (i := fg) HFL.out
  rw [hGR.out] at hc8
  have HVR := Lib.hid hvr
  have HK := Lib.hid K
  have HAA := Lib.hid HA
  have HC8 := Lib.hid (fun (w9 : World) (h : Below w3.heap.size w3 w9) => (Below.cell h (p := ⟨b8, o8 + fg, none⟩) hb8).trans hc8)
  have hl1 := K.rv.lt
  clear hb3 hvo hvr CP HA K hb8 hc8 q0 q1 q2 q3 z0 z1 r0 r1 a0 a1 hl2 hl3 hl4
  go_wp2_with fail
  go_loopw [35] (fun i wr => ∃ k : Nat, k ≤ Ln ∧ i = .int .i64 (k : Int) ∧ Below w3.heap.size w3 wr ∧ Hid (hasB (ps.take k) a = false)) (fun i _ => Ln - (intOf i).toNat)
  case atStart => exact ⟨0, Nat.zero_le _, by first | rfl | trivial, Below.refl _ _, Lib.hid rfl⟩
  case round =>
    obtain ⟨k, hk, rfl, hbk, hno⟩ := hrel
    clear hl1
    have K := HK.out.below hbk
    by_cases hlt : k < Ln
    · obtain ⟨A7, c7, rs7, e7, hrd7, hls7, -⟩ := (relSl RelP 3 enP).keep HAA.out (.below hbk)
      simp only [Value.slice.injEq] at e7
      obtain ⟨rfl, -, rfl⟩ := e7
      obtain ⟨b7, o7, r7, rfl, -, hb7, hr7, hc7⟩ := hrd7.at_ (i := k) (by rw [hls7.1, HM.out]; exact hlt)
      obtain ⟨q, hq, hR7⟩ := hls7.at_ hr7
      obtain ⟨sp, bd⟩ := q
      have HQ := Lib.hid hq
      have hbd := (HPO.out _ (List.mem_of_getElem? hq)).1
      obtain ⟨r0', rl, rm⟩ := r7
      have hR0 := hR7.1.sl enSt_len
      have hR1 := hR7.2.1
      have hR2 := hR7.2.2
      simp only at hR0 hR1 hR2 hbd
      obtain ⟨A0, c0', rfl, -⟩ := hR0
      obtain ⟨A3, c3, rfl, k3, -⟩ := hR1
      obtain ⟨A4, c4, rfl, k4, -⟩ := hR2
      obtain ⟨hl3', hl4'⟩ := HLN.out bd hbd
      obtain ⟨n0, hn0⟩ : ∃ n, sp.length = n := ⟨_, rfl⟩
      have e0 : wr.cell? ⟨b7, o7 + k * 3, none⟩ = some (.slice A0 n0 c0') := by have := hc7 0 _ rfl; simp only [hn0] at this; exact this
      have e1 : wr.cell? ⟨b7, o7 + k * 3 + 1, none⟩ = some (.slice A3 n c3) := by have := hc7 1 _ rfl; simp only [hl3'] at this; exact this
      have e2 : wr.cell? ⟨b7, o7 + k * 3 + 2, none⟩ = some (.slice A4 n c4) := by have := hc7 2 _ rfl; simp only [hl4'] at this; exact this
      obtain ⟨xb, hxb⟩ : ∃ t, decide (bd = a) = t := ⟨_, rfl⟩
      have hwa := HK.out.bel.trans (hbk.mono HK.out.bel.size)
      have CB := Lib.hid (fun (w9 : World) (h : Below wr.heap.size wr w9) => same_i bd a n hl3' hl4' HLA.out.1 HLA.out.2 A3 A4 Bo Bt c3 c4 do_ dt w9 (((k3.keep (.below h)).rd)) ((k4.keep (.below h)).rd) ((KO.out.below (hwa.trans (h.mono hwa.size)) (Nat.le_refl _)).more (Nat.le_trans hwa.size h.size)) ((KT.out.below (hwa.trans (h.mono hwa.size)) (Nat.le_refl _)).more (Nat.le_trans hwa.size h.size)) xb hxb)
      have hkn : (k : Int) < (Ln : Int) := by omega
      have hwk : IntKind.i64.wrap ((k : Int) + 1) = (k : Int) + 1 := IntWalk.i64_in _ (by omega)
      have hzk := HZB.out k (by rw [HL.out]; exact hlt)
      obtain ⟨zk, hzk2⟩ : ∃ z, at_ zs k = z := ⟨_, rfl⟩
      obtain ⟨bq, oq, heq, hbq, hcq⟩ := at_rd HVR.out (i := k) (by rw [HL.out]; exact hlt)
      simp only [Option.some.injEq, Addr.mk.injEq, and_true] at heq
      obtain ⟨rfl, rfl⟩ := heq
      rw [hzk2] at hzk hcq
      have HZK := Lib.hid hzk2
      have hwg : IntKind.i64.wrap (G - zk) = G - zk := IntWalk.i64_in _ (by omega)
      have HCQ := Lib.hid (fun (w9 : World) (h : Below w3.heap.size w3 w9) => (Below.cell h (p := ⟨b8, o8 + k, none⟩) hbq).trans hcq)
      have HXB := Lib.hid hxb
      clear hq hR7 hc7 hrd7 hls7 hr7 k3 k4 hl3' hl4' hn0 hxb hwa hbd hzk2 hbq hcq
      go_upto_region 6 with (fail)
      refine wp_gen (fun W' => Below wr.heap.size wr W' ∧ RowB W' wr.heap.size 65 [.slice A0 n0 c0', .slice A3 n c3, .slice A4 n c4]) ?_ ?_
      · exact ⟨(Below.refl _ _).alloc (Nat.le_refl _) _, RowB.new _ _ _⟩
      rintro w5 ⟨hb5, rp⟩
      have K := K.below hb5
      have CB := Lib.hid (CB.out w5 hb5)
      have hbk := hbk.trans (hb5.mono hbk.size)
      obtain ⟨g14, hg14⟩ : ∃ g, wr.heap.size = g := ⟨_, rfl⟩
      rw [hg14] at rp ⊢
      obtain ⟨p0, p1, p2⟩ := rp.c3
      obtain ⟨a0, a1⟩ := K.ra.c2
      have hl4 := K.ra.lt
      have hl5 := rp.lt
      clear e0 e1 e2 hb7 hb5 hg14
      go_wp2_with fail
      refine CB.out.mono ?_
      rintro e w6 ⟨rfl, hb6⟩
      have K := K.below hb6
      have hbk := hbk.trans (hb6.mono hbk.size)
      clear p0 p1 p2 a0 a1 hl4 hl5 rp hb6 CB
      cases xb
      case false =>
        have hnN : Hid (hasB (ps.take (k + 1)) a = false) := Lib.hid (by rw [takeS HQ.out, hasB_snoc, hno.out, HXB.out]; rfl)
        clear K
        go_wp2_with fail
        go_roundw
        case rel => exact ⟨k + 1, by omega, by go_num, hbk, hnN⟩
        case measure => simp [intOf]; omega
      case true =>
        have hfd := fd_at HQ.out hno.out (of_decide_eq_true HXB.out)
        have hZZ := HZ.out
        rw [hfd, if_neg (by omega), Int.toNat_natCast, HZK.out] at hZZ
        have HG := Lib.hid (fun _ : Unit => Prod.mk.inj hZZ)
        have BK := Lib.hid hbk
        have KB := Lib.hid K.bel
        clear hZZ hfd HZ hbk K
        go_wp2_with fail
        refine region_rel [some 44, some 45, some 46, some 47, some 48, some 49, some 50, some 51, some 52, some 53, some 10, some 11] 12 (Pl [some (.slice (some ⟨b8, o8, none⟩) Ln cv), some (.slice (some ⟨b8, o8, none⟩) Ln cv), some (.int .i64 (fg : Int)), some (.pointer (some ⟨b8, o8 + fg, none⟩)), some (.int .i64 G), some (.slice (some ⟨b8, o8, none⟩) Ln cv), some (.int .i64 (k : Int)), some (.pointer (some ⟨b8, o8 + k, none⟩)), some (.int .i64 zk), some (.int .i64 (G - zk)), some (.int .i64 (G - zk)), some (.bool true)]) (fun L vals w' => Below w6.heap.size w6 w') (by kernel_rfl) (by kernel_rfl) (by kernel_rfl) (by kernel_rfl) (by kernel_rfl) (by kernel_rfl) (by kernel_rfl) ?g0_1 ?gst_1 ?gfin_1
        case g0_1 => exact (Below.refl _ _).drew
        case gst_1 =>
          refine RelFrom.run rfl (fun L vals A w9 hno hdl hcl hu hp h0 F K hK => ?_) ?_
          · have e14 : A.tmps[14]?.getD undef = .slice (some ⟨b8, o8, none⟩) Ln cv := h0 14 (fun j _ hj => absurd (List.mem_of_getElem? hj) (by decide))
            clear hu h0 hp
            have c8 := HC8.out w9 (BK.out.trans (F.mono BK.out.size))
            have cq := HCQ.out w9 (BK.out.trans (F.mono BK.out.size))
            go_simp
            exact hK.out _ w9 (Pl.fix rfl) (F)
          refine RelFrom.run rfl (fun L vals A w9 hno hdl hcl hu hp h0 F K hK => ?_) ?_
          · have e14 : A.tmps[14]?.getD undef = .slice (some ⟨b8, o8, none⟩) Ln cv := h0 14 (fun j _ hj => absurd (List.mem_of_getElem? hj) (by decide))
            clear hu h0 hp
            have c8 := HC8.out w9 (BK.out.trans (F.mono BK.out.size))
            have cq := HCQ.out w9 (BK.out.trans (F.mono BK.out.size))
            go_simp
            exact hK.out _ w9 (Pl.fix rfl) (F)
          refine RelFrom.run rfl (fun L vals A w9 hno hdl hcl hu hp h0 F K hK => ?_) ?_
          · have e45 : A.tmps[45]?.getD undef = .slice (some ⟨b8, o8, none⟩) Ln cv := (hu 1 45 (by kernel_rfl) rfl).trans (hp 1 (by kernel_rfl) _ rfl)
            clear hu h0 hp
            go_simp
            refine (CF.out w9 _ cv _ (HVR.out.below (BK.out.trans (F.mono BK.out.size)) (Nat.le_refl _))).mono ?_
            rintro e w6' ⟨rfl, rfl⟩
            exact hK.out _ w9 (Pl.fix rfl) F
          refine RelFrom.run rfl (fun L vals A w9 hno hdl hcl hu hp h0 F K hK => ?_) ?_
          · have e44 : A.tmps[44]?.getD undef = .slice (some ⟨b8, o8, none⟩) Ln cv := (hu 0 44 (by kernel_rfl) rfl).trans (hp 0 (by kernel_rfl) _ rfl)
            have e46 : A.tmps[46]?.getD undef = .int .i64 (fg : Int) := (hu 2 46 (by kernel_rfl) rfl).trans (hp 2 (by kernel_rfl) _ rfl)
            clear hu h0 hp
            have c8 := HC8.out w9 (BK.out.trans (F.mono BK.out.size))
            have cq := HCQ.out w9 (BK.out.trans (F.mono BK.out.size))
            go_simp
            exact hK.out _ w9 (Pl.fix rfl) (F)
          refine RelFrom.run rfl (fun L vals A w9 hno hdl hcl hu hp h0 F K hK => ?_) ?_
          · have e47 : A.tmps[47]?.getD undef = .pointer (some ⟨b8, o8 + fg, none⟩) := (hu 3 47 (by kernel_rfl) rfl).trans (hp 3 (by kernel_rfl) _ rfl)
            clear hu h0 hp
            have c8 := HC8.out w9 (BK.out.trans (F.mono BK.out.size))
            have cq := HCQ.out w9 (BK.out.trans (F.mono BK.out.size))
            go_simp
            exact hK.out _ w9 (Pl.fix rfl) (F)
          refine RelFrom.run rfl (fun L vals A w9 hno hdl hcl hu hp h0 F K hK => ?_) ?_
          · have e14 : A.tmps[14]?.getD undef = .slice (some ⟨b8, o8, none⟩) Ln cv := h0 14 (fun j _ hj => absurd (List.mem_of_getElem? hj) (by decide))
            clear hu h0 hp
            have c8 := HC8.out w9 (BK.out.trans (F.mono BK.out.size))
            have cq := HCQ.out w9 (BK.out.trans (F.mono BK.out.size))
            go_simp
            exact hK.out _ w9 (Pl.fix rfl) (F)
          refine RelFrom.run rfl (fun L vals A w9 hno hdl hcl hu hp h0 F K hK => ?_) ?_
          · have e16 : A.tmps[16]?.getD undef = .int .i64 (k : Int) := h0 16 (fun j _ hj => absurd (List.mem_of_getElem? hj) (by decide))
            clear hu h0 hp
            have c8 := HC8.out w9 (BK.out.trans (F.mono BK.out.size))
            have cq := HCQ.out w9 (BK.out.trans (F.mono BK.out.size))
            go_simp
            exact hK.out _ w9 (Pl.fix rfl) (F)
          refine RelFrom.run rfl (fun L vals A w9 hno hdl hcl hu hp h0 F K hK => ?_) ?_
          · have e49 : A.tmps[49]?.getD undef = .slice (some ⟨b8, o8, none⟩) Ln cv := (hu 5 49 (by kernel_rfl) rfl).trans (hp 5 (by kernel_rfl) _ rfl)
            have e50 : A.tmps[50]?.getD undef = .int .i64 (k : Int) := (hu 6 50 (by kernel_rfl) rfl).trans (hp 6 (by kernel_rfl) _ rfl)
            clear hu h0 hp
            have c8 := HC8.out w9 (BK.out.trans (F.mono BK.out.size))
            have cq := HCQ.out w9 (BK.out.trans (F.mono BK.out.size))
            go_simp
            exact hK.out _ w9 (Pl.fix rfl) (F)
          refine RelFrom.run rfl (fun L vals A w9 hno hdl hcl hu hp h0 F K hK => ?_) ?_
          · have e51 : A.tmps[51]?.getD undef = .pointer (some ⟨b8, o8 + k, none⟩) := (hu 7 51 (by kernel_rfl) rfl).trans (hp 7 (by kernel_rfl) _ rfl)
            clear hu h0 hp
            have c8 := HC8.out w9 (BK.out.trans (F.mono BK.out.size))
            have cq := HCQ.out w9 (BK.out.trans (F.mono BK.out.size))
            go_simp
            exact hK.out _ w9 (Pl.fix rfl) (F)
          refine RelFrom.run rfl (fun L vals A w9 hno hdl hcl hu hp h0 F K hK => ?_) ?_
          · have e48 : A.tmps[48]?.getD undef = .int .i64 G := (hu 4 48 (by kernel_rfl) rfl).trans (hp 4 (by kernel_rfl) _ rfl)
            have e52 : A.tmps[52]?.getD undef = .int .i64 zk := (hu 8 52 (by kernel_rfl) rfl).trans (hp 8 (by kernel_rfl) _ rfl)
            clear hu h0 hp
            have c8 := HC8.out w9 (BK.out.trans (F.mono BK.out.size))
            have cq := HCQ.out w9 (BK.out.trans (F.mono BK.out.size))
            go_simp
            exact hK.out _ w9 (Pl.fix rfl) (F)
          refine RelFrom.run rfl (fun L vals A w9 hno hdl hcl hu hp h0 F K hK => ?_) ?_
          · have e53 : A.tmps[53]?.getD undef = .int .i64 (G - zk) := (hu 9 53 (by kernel_rfl) rfl).trans (hp 9 (by kernel_rfl) _ rfl)
            clear hu h0 hp
            have c8 := HC8.out w9 (BK.out.trans (F.mono BK.out.size))
            have cq := HCQ.out w9 (BK.out.trans (F.mono BK.out.size))
            go_simp
            exact hK.out _ w9 (Pl.fix rfl) (F)
          refine RelFrom.run rfl (fun L vals A w9 hno hdl hcl hu hp h0 F K hK => ?_) ?_
          · clear hu h0 hp
            have c8 := HC8.out w9 (BK.out.trans (F.mono BK.out.size))
            have cq := HCQ.out w9 (BK.out.trans (F.mono BK.out.size))
            go_simp
            exact hK.out _ w9 (Pl.fix rfl) (F)
          exact RelFrom.nil (by decide)
        case gfin_1 =>
          intro vals w9 hp F
          simp only [Fr, Act.put, List.setIfInBounds_toArray, List.set_cons_zero, List.set_cons_succ, Nat.reduceAdd]
          have bel := KB.out.trans (F.mono KB.out.size)
          have h10 : vals 10 = .int .i64 (G - zk) := hp 10 (by decide) _ rfl
          have h11 : vals 11 = .bool true := hp 11 (by decide) _ rfl
          rw [h10, h11]
          clear F hp h10 h11 BK KB
          go_wp2_with fail
          go_ret2
          refine ⟨?_, bel⟩
          rw [← (HG.out ()).1, ← (HG.out ()).2]
          rfl
    · obtain rfl : k = Ln := by omega
      have hnk : ¬ ((k : Int) < (k : Int)) := by omega
      have hfd := fd_none (out := ps) (b := a) (by rw [← hno.out, List.take_of_length_le (by rw [HM.out]; exact Nat.le_refl _)])
      have hZZ := HZ.out
      rw [hfd, if_pos (by omega)] at hZZ
      have HG := Lib.hid (fun _ : Unit => Prod.mk.inj hZZ)
      have bel := K.bel
      clear hZZ hfd HZ K
      go_wp2_with fail
      go_ret2
      refine ⟨?_, bel⟩
      rw [← (HG.out ()).1, ← (HG.out ()).2]
      rfl

set_option maxHeartbeats 2000000 in
theorem loss29 (zs : List Int) (Ln : Nat) (hL : zs.length = Ln) (k : Nat) (hk : k < Ln) (hbz : ∀ z ∈ zs, 0 ≤ z ∧ z ≤ 1000000) (A : Option Addr) (cp : Nat) (w : World) (hr : RdS w w.heap.size 1 enI A zs) :
    Calls Try.prog 33 #[.slice A Ln cp, .int .i64 (k : Int)] w fun e w' => e = .returned (.int .i64 (grt zs - at_ zs k)) ∧ Below w.heap.size w w' := by
  have hlen := hr.len
  rw [hL] at hlen
  have hg := gr_bd hbz (zs.length - 1) (by omega)
  have CG := Lib.hid (fun (w9 : World) (h : Below w.heap.size w w9) => great_s A cp w.heap.size zs w9 (hr.below h (Nat.le_refl _)) (by omega))
  obtain ⟨b8, o8, rfl, hb8, hc8⟩ := at_rd hr (i := k) (by omega)
  have hz := hbz _ (List.mem_of_getElem? (at_get (l := zs) (i := k) (by omega)))
  obtain ⟨G, hG⟩ : ∃ g, grt zs = g := ⟨_, rfl⟩
  obtain ⟨zk, hzk⟩ : ∃ z, at_ zs k = z := ⟨_, rfl⟩
  rw [show grU zs (zs.length - 1) = G from hG] at hg
  rw [hG, hL] at CG
  rw [hzk] at hc8 hz
  rw [hG, hzk]
  have hwg : IntKind.i64.wrap (G - zk) = G - zk := IntWalk.i64_in _ (by omega)
  have hki : (k : Int) < (Ln : Int) := by omega
  have HC := Lib.hid (fun (w9 : World) (h : Below w.heap.size w w9) => (Below.cell h (p := ⟨b8, o8 + k, none⟩) hb8).trans hc8)
  clear hr hbz hL hg hc8 hz hG hzk hb8
  go_enter Try.func33, Try.ntmps33
  go_wp2_with fail
  refine region_rel [some 5, some 6, some 7, some 8, some 9, some 10, some 11, some 4] 8 (Pl [some (.slice (some ⟨b8, o8, none⟩) Ln cp), some (.int .i64 G), some (.slice (some ⟨b8, o8, none⟩) Ln cp), some (.int .i64 (k : Int)), some (.pointer (some ⟨b8, o8 + k, none⟩)), some (.int .i64 zk), some (.int .i64 (G - zk)), some (.int .i64 (G - zk))]) (fun L vals w' => Below w.heap.size w w') (by kernel_rfl) (by kernel_rfl) (by kernel_rfl) (by kernel_rfl) (by kernel_rfl) (by kernel_rfl) (by kernel_rfl) ?g0_2 ?gst_2 ?gfin_2
  case g0_2 => exact (Below.refl _ _).drew
  case gst_2 =>
    refine RelFrom.run rfl (fun L vals A w9 hno hdl hcl hu hp h0 F K hK => ?_) ?_
    · have e0 : A.tmps[0]?.getD undef = .slice (some ⟨b8, o8, none⟩) Ln cp := h0 0 (fun j _ hj => absurd (List.mem_of_getElem? hj) (by decide))
      clear hu h0 hp
      have c8 := HC.out w9 F
      go_simp
      exact hK.out _ w9 (Pl.fix rfl) (F)
    refine RelFrom.run rfl (fun L vals A w9 hno hdl hcl hu hp h0 F K hK => ?_) ?_
    · have e5 : A.tmps[5]?.getD undef = .slice (some ⟨b8, o8, none⟩) Ln cp := (hu 0 5 (by kernel_rfl) rfl).trans (hp 0 (by kernel_rfl) _ rfl)
      clear hu h0 hp
      go_simp
      refine (CG.out w9 F).mono ?_
      rintro e w6 ⟨rfl, rfl⟩
      exact hK.out _ w9 (Pl.fix rfl) F
    refine RelFrom.run rfl (fun L vals A w9 hno hdl hcl hu hp h0 F K hK => ?_) ?_
    · have e0 : A.tmps[0]?.getD undef = .slice (some ⟨b8, o8, none⟩) Ln cp := h0 0 (fun j _ hj => absurd (List.mem_of_getElem? hj) (by decide))
      clear hu h0 hp
      have c8 := HC.out w9 F
      go_simp
      exact hK.out _ w9 (Pl.fix rfl) (F)
    refine RelFrom.run rfl (fun L vals A w9 hno hdl hcl hu hp h0 F K hK => ?_) ?_
    · have e1 : A.tmps[1]?.getD undef = .int .i64 (k : Int) := h0 1 (fun j _ hj => absurd (List.mem_of_getElem? hj) (by decide))
      clear hu h0 hp
      have c8 := HC.out w9 F
      go_simp
      exact hK.out _ w9 (Pl.fix rfl) (F)
    refine RelFrom.run rfl (fun L vals A w9 hno hdl hcl hu hp h0 F K hK => ?_) ?_
    · have e7 : A.tmps[7]?.getD undef = .slice (some ⟨b8, o8, none⟩) Ln cp := (hu 2 7 (by kernel_rfl) rfl).trans (hp 2 (by kernel_rfl) _ rfl)
      have e8 : A.tmps[8]?.getD undef = .int .i64 (k : Int) := (hu 3 8 (by kernel_rfl) rfl).trans (hp 3 (by kernel_rfl) _ rfl)
      clear hu h0 hp
      have c8 := HC.out w9 F
      go_simp
      exact hK.out _ w9 (Pl.fix rfl) (F)
    refine RelFrom.run rfl (fun L vals A w9 hno hdl hcl hu hp h0 F K hK => ?_) ?_
    · have e9 : A.tmps[9]?.getD undef = .pointer (some ⟨b8, o8 + k, none⟩) := (hu 4 9 (by kernel_rfl) rfl).trans (hp 4 (by kernel_rfl) _ rfl)
      clear hu h0 hp
      have c8 := HC.out w9 F
      go_simp
      exact hK.out _ w9 (Pl.fix rfl) (F)
    refine RelFrom.run rfl (fun L vals A w9 hno hdl hcl hu hp h0 F K hK => ?_) ?_
    · have e6 : A.tmps[6]?.getD undef = .int .i64 G := (hu 1 6 (by kernel_rfl) rfl).trans (hp 1 (by kernel_rfl) _ rfl)
      have e10 : A.tmps[10]?.getD undef = .int .i64 zk := (hu 5 10 (by kernel_rfl) rfl).trans (hp 5 (by kernel_rfl) _ rfl)
      clear hu h0 hp
      have c8 := HC.out w9 F
      go_simp
      exact hK.out _ w9 (Pl.fix rfl) (F)
    refine RelFrom.run rfl (fun L vals A w9 hno hdl hcl hu hp h0 F K hK => ?_) ?_
    · have e11 : A.tmps[11]?.getD undef = .int .i64 (G - zk) := (hu 6 11 (by kernel_rfl) rfl).trans (hp 6 (by kernel_rfl) _ rfl)
      clear hu h0 hp
      have c8 := HC.out w9 F
      go_simp
      exact hK.out _ w9 (Pl.fix rfl) (F)
    exact RelFrom.nil (by decide)
  case gfin_2 =>
    intro vals w9 hp F
    simp only [Fr, Act.put, List.setIfInBounds_toArray, List.set_cons_zero, List.set_cons_succ, Nat.reduceAdd]
    have h7 : vals 7 = .int .i64 (G - zk) := hp 7 (by decide) _ rfl
    rw [h7]
    clear hp h7
    go_wp2_with fail
    go_ret
    exact ⟨rfl, F⟩

set_option maxHeartbeats 8000000 in
set_option maxRecDepth 100000 in
theorem lossX_i (v : Vr) (b : Bd) (Ao At : Option Addr) (co ct : Nat) (x y : Int) (a : Bd) (Bo Bt : Option Addr) (do_ dt : Nat) (d : Int) (w : World) (ho : RdS w w.heap.size 1 enI Ao b.1) (ht : RdS w w.heap.size 1 enI At b.2) (hA : Ao = none → co = 0) (hT : At = none → ct = 0) (ko : RdS w w.heap.size 1 enI Bo a.1) (kt : RdS w w.heap.size 1 enI Bt a.2) :
    Calls Try.prog 14 #[.agg #[.int .i64 v.p, .int .i64 v.c, .int .i64 v.h, .int .i64 v.s], .agg #[.slice Ao b.1.length co, .slice At b.2.length ct], .agg #[.int .i64 x, .int .i64 y], .agg #[.slice Bo a.1.length do_, .slice Bt a.2.length dt], .int .i64 d] w fun e w' => e = .returned (.tuple #[.int .i64 (lossR v b x y a d).1, .int .i64 (lossR v b x y a d).2]) ∧ Below w.heap.size w w' := by
  obtain ⟨c0, h0⟩ : ∃ c, okB v b = c := ⟨_, rfl⟩
  obtain ⟨ca, h9⟩ : ∃ c, okB v a = c := ⟨_, rfl⟩
  obtain ⟨c1, h1⟩ : ∃ c, (okV v && okR v x y) = c := ⟨_, rfl⟩
  obtain ⟨z, hz⟩ : ∃ z, codeT v (okB v b && okB v a) (okR v x y) d = z := ⟨_, rfl⟩
  have hz2 : codeT v (c0 && ca) c1 d = z := by rw [← h0, ← h1, ← h9, codeT_two]; exact hz
  have C0 := Lib.hid (fun (w9 : World) (h : Below w.heap.size w w9) => Bd3I.isB_i v b Ao At co ct w.heap.size w9 h.size (ho.below h (Nat.le_refl _)) (ht.below h (Nat.le_refl _)) c0 h0)
  have C9 := Lib.hid (fun (w9 : World) (h : Below w.heap.size w w9) => Bd3I.isB_i v a Bo Bt do_ dt w.heap.size w9 h.size (ko.below h (Nat.le_refl _)) (kt.below h (Nat.le_refl _)) ca h9)
  have C1 := Lib.hid (fun w => isroll_i v x y c1 h1 w)
  have C2 := Lib.hid (fun w => tutor_i v (c0 && ca) c1 d z hz2 w)
  obtain ⟨LF, hLF⟩ : ∃ l, lossF v d.toNat b x y a = l := ⟨_, rfl⟩
  have CL := Lib.hid (fun (h : z = 0) (w9 : World) (hw : Below w.heap.size w w9) => show Calls Try.prog 35 #[.agg #[.int .i64 v.p, .int .i64 v.c, .int .i64 v.h, .int .i64 v.s], .agg #[.slice Ao b.1.length co, .slice At b.2.length ct], .agg #[.int .i64 x, .int .i64 y], .agg #[.slice Bo a.1.length do_, .slice Bt a.2.length dt], .int .i64 d] w9 fun e w' => e = .returned (.tuple #[.int .i64 LF.1, .bool LF.2]) ∧ Below w9.heap.size w9 w' from by
    obtain ⟨hk1, hk2⟩ := codeT_zero2 (hz.trans h)
    have hk := codeT_zero hk1
    have hr := okR_iff.1 hk.2.1
    rw [← hLF]
    obtain ⟨dn, rfl⟩ : ∃ n : Nat, d = (n : Int) := ⟨d.toNat, by omega⟩
    rw [Int.toNat_natCast]
    exact lossOf_i v b hk.1 hk.2.2.2.1 Ao At co ct x y (by omega) (by omega) a hk2 Bo Bt do_ dt dn (by omega) w9 ((ho.below hw (Nat.le_refl _)).more hw.size) ((ht.below hw (Nat.le_refl _)).more hw.size) hA hT ((ko.below hw (Nat.le_refl _)).more hw.size) ((kt.below hw (Nat.le_refl _)).more hw.size))
  have hR0 : lossR v b x y a d = if z = 0 then (if LF.2 = true then (LF.1, 0) else (0, 4)) else (0, z) := by unfold lossR; rw [hz, hLF]
  obtain ⟨Rz, hRz⟩ : ∃ r, lossR v b x y a d = r := ⟨_, rfl⟩
  rw [hRz] at hR0 ⊢
  obtain ⟨g1, g2⟩ := Rz
  obtain ⟨lf1, lf2⟩ := LF
  simp only at hR0 CL
  have HR := Lib.hid hR0
  simp only
  obtain ⟨n1, hn1⟩ : ∃ n, b.1.length = n := ⟨_, rfl⟩
  obtain ⟨n2, hn2⟩ : ∃ n, b.2.length = n := ⟨_, rfl⟩
  obtain ⟨n3, hn3⟩ : ∃ n, a.1.length = n := ⟨_, rfl⟩
  obtain ⟨n4, hn4⟩ : ∃ n, a.2.length = n := ⟨_, rfl⟩
  rw [hn1, hn2] at C0 CL ⊢
  rw [hn3, hn4] at C9 CL ⊢
  clear ho ht hA hT ko kt h0 h1 h9 hz hz2 hn1 hn2 hn3 hn4 hR0 hRz hLF
  go_enter Try.func14, Try.ntmps14
  go_upto_region 1 with (fail)
  refine wp_gen (fun W' => B4 w W' v [.slice Ao n1 co, .slice At n2 ct] x y [.slice Bo n3 do_, .slice Bt n4 dt]) ⟨by go_grown, (((RowB.new _ _ _).alloc _).alloc _).alloc _, RowB.alloc (RowB.alloc (RowB.new' _ _ _ (by simp)) _) _, RowB.alloc (RowB.new' _ _ _ (by simp)) _, RowB.new' _ _ _ (by simp)⟩ ?_
  intro w1 K
  cases c0
  case false =>
    refine region_fix [some 15, some 16, some 17, some 18, some 19, some 20, some 21, some 22, some 23, some 24, some 25, some 26, some 27, some 28, some 12] (fun j_ => ([.agg #[.int .i64 v.p, .int .i64 v.c, .int .i64 v.h, .int .i64 v.s], .agg #[.int .i64 v.p, .int .i64 v.c, .int .i64 v.h, .int .i64 v.s], .agg #[.slice Ao n1 co, .slice At n2 ct], .bool false, .bool false, undef, undef, undef, .bool false, .int .i64 d, .agg #[.int .i64 v.p, .int .i64 v.c, .int .i64 v.h, .int .i64 v.s], .agg #[.int .i64 x, .int .i64 y], .bool c1, .int .i64 z, .int .i64 z] : List Value).getD j_ undef) (fun L w' => B4 w w' v [.slice Ao n1 co, .slice At n2 ct] x y [.slice Bo n3 do_, .slice Bt n4 dt]) (by kernel_rfl) (by kernel_rfl) (by kernel_rfl) (by kernel_rfl) (by first | kernel_rfl | rfl) (by first | kernel_rfl | rfl) ?hB1 ?hBL1 ?hst1 ?fin1
    case hB1 => exact K.drew
    case hBL1 => exact fun _ _ _ _ h => h
    case hst1 =>
      refine FixFrom.run rfl rfl (fun L A w9 hno hu h0 hb9 K hK => ?_) ?_
      · have e5 : A.tmps[5]?.getD undef = .pointer (some ⟨w.heap.size, 0, none⟩) := h0 5 (by decide)
        clear hu h0
        have rq := hb9.rv.c4
        have q0 := rq.1
        have q1 := rq.2.1
        have q2 := rq.2.2.1
        have q3 := rq.2.2.2
        have rz := hb9.rb.c2
        have z0 := rz.1
        have z1 := rz.2
        have rr := hb9.rr.c2
        have r0 := rr.1
        have r1 := rr.2
        have raa := hb9.ra.c2
        have a0 := raa.1
        have a1 := raa.2
        clear rq rz rr raa
        go_simp
        exact hK.out w9 hb9
      refine FixFrom.run rfl rfl (fun L A w9 hno hu h0 hb9 K hK => ?_) ?_
      · have e5 : A.tmps[5]?.getD undef = .pointer (some ⟨w.heap.size, 0, none⟩) := h0 5 (by decide)
        clear hu h0
        have rq := hb9.rv.c4
        have q0 := rq.1
        have q1 := rq.2.1
        have q2 := rq.2.2.1
        have q3 := rq.2.2.2
        have rz := hb9.rb.c2
        have z0 := rz.1
        have z1 := rz.2
        have rr := hb9.rr.c2
        have r0 := rr.1
        have r1 := rr.2
        have raa := hb9.ra.c2
        have a0 := raa.1
        have a1 := raa.2
        clear rq rz rr raa
        go_simp
        exact hK.out w9 hb9
      refine FixFrom.run rfl rfl (fun L A w9 hno hu h0 hb9 K hK => ?_) ?_
      · have e6 : A.tmps[6]?.getD undef = .pointer (some ⟨w.heap.size + 1, 0, none⟩) := h0 6 (by decide)
        clear hu h0
        have rq := hb9.rv.c4
        have q0 := rq.1
        have q1 := rq.2.1
        have q2 := rq.2.2.1
        have q3 := rq.2.2.2
        have rz := hb9.rb.c2
        have z0 := rz.1
        have z1 := rz.2
        have rr := hb9.rr.c2
        have r0 := rr.1
        have r1 := rr.2
        have raa := hb9.ra.c2
        have a0 := raa.1
        have a1 := raa.2
        clear rq rz rr raa
        go_simp
        exact hK.out w9 hb9
      refine FixFrom.run rfl rfl (fun L A w9 hno hu h0 hb9 K hK => ?_) ?_
      · have e16 : A.tmps[16]?.getD undef = .agg #[.int .i64 v.p, .int .i64 v.c, .int .i64 v.h, .int .i64 v.s] := hu 1 16 (by kernel_rfl) rfl
        have e17 : A.tmps[17]?.getD undef = .agg #[.slice Ao n1 co, .slice At n2 ct] := hu 2 17 (by kernel_rfl) rfl
        clear hu h0
        have rq := hb9.rv.c4
        have q0 := rq.1
        have q1 := rq.2.1
        have q2 := rq.2.2.1
        have q3 := rq.2.2.2
        have rz := hb9.rb.c2
        have z0 := rz.1
        have z1 := rz.2
        have rr := hb9.rr.c2
        have r0 := rr.1
        have r1 := rr.2
        have raa := hb9.ra.c2
        have a0 := raa.1
        have a1 := raa.2
        clear rq rz rr raa
        go_simp
        refine (C0.out w9 hb9.bel).mono ?_
        rintro e w2 ⟨rfl, hv2⟩
        exact hK.out w2 (hb9.below hv2)
      refine FixFrom.run rfl rfl (fun L A w9 hno hu h0 hb9 K hK => ?_) ?_
      · have e18 : A.tmps[18]?.getD undef = .bool false := hu 3 18 (by kernel_rfl) rfl
        clear hu h0
        have rq := hb9.rv.c4
        have q0 := rq.1
        have q1 := rq.2.1
        have q2 := rq.2.2.1
        have q3 := rq.2.2.2
        have rz := hb9.rb.c2
        have z0 := rz.1
        have z1 := rz.2
        have rr := hb9.rr.c2
        have r0 := rr.1
        have r1 := rr.2
        have raa := hb9.ra.c2
        have a0 := raa.1
        have a1 := raa.2
        clear rq rz rr raa
        go_simp
        exact hK.out w9 hb9
      refine FixFrom.skip rfl rfl rfl (fun _ _ h => h) ?_
      refine FixFrom.skip rfl rfl rfl (fun _ _ h => h) ?_
      refine FixFrom.skip rfl rfl rfl (fun _ _ h => h) ?_
      refine FixFrom.run rfl rfl (fun L A w9 hno hu h0 hb9 K hK => ?_) ?_
      · have e19 : A.tmps[19]?.getD undef = .bool false := hu 4 19 (by kernel_rfl) rfl
        have e22 : A.tmps[22]?.getD undef = undef := hu 7 22 (by kernel_rfl) rfl
        clear hu h0
        have rq := hb9.rv.c4
        have q0 := rq.1
        have q1 := rq.2.1
        have q2 := rq.2.2.1
        have q3 := rq.2.2.2
        have rz := hb9.rb.c2
        have z0 := rz.1
        have z1 := rz.2
        have rr := hb9.rr.c2
        have r0 := rr.1
        have r1 := rr.2
        have raa := hb9.ra.c2
        have a0 := raa.1
        have a1 := raa.2
        clear rq rz rr raa
        go_simp
        exact hK.out w9 hb9
      refine FixFrom.run rfl rfl (fun L A w9 hno hu h0 hb9 K hK => ?_) ?_
      · have e4 : A.tmps[4]?.getD undef = .int .i64 d := h0 4 (by decide)
        clear hu h0
        have rq := hb9.rv.c4
        have q0 := rq.1
        have q1 := rq.2.1
        have q2 := rq.2.2.1
        have q3 := rq.2.2.2
        have rz := hb9.rb.c2
        have z0 := rz.1
        have z1 := rz.2
        have rr := hb9.rr.c2
        have r0 := rr.1
        have r1 := rr.2
        have raa := hb9.ra.c2
        have a0 := raa.1
        have a1 := raa.2
        clear rq rz rr raa
        go_simp
        exact hK.out w9 hb9
      refine FixFrom.run rfl rfl (fun L A w9 hno hu h0 hb9 K hK => ?_) ?_
      · have e5 : A.tmps[5]?.getD undef = .pointer (some ⟨w.heap.size, 0, none⟩) := h0 5 (by decide)
        clear hu h0
        have rq := hb9.rv.c4
        have q0 := rq.1
        have q1 := rq.2.1
        have q2 := rq.2.2.1
        have q3 := rq.2.2.2
        have rz := hb9.rb.c2
        have z0 := rz.1
        have z1 := rz.2
        have rr := hb9.rr.c2
        have r0 := rr.1
        have r1 := rr.2
        have raa := hb9.ra.c2
        have a0 := raa.1
        have a1 := raa.2
        clear rq rz rr raa
        go_simp
        exact hK.out w9 hb9
      refine FixFrom.run rfl rfl (fun L A w9 hno hu h0 hb9 K hK => ?_) ?_
      · have e7 : A.tmps[7]?.getD undef = .pointer (some ⟨w.heap.size + 2, 0, none⟩) := h0 7 (by decide)
        clear hu h0
        have rq := hb9.rv.c4
        have q0 := rq.1
        have q1 := rq.2.1
        have q2 := rq.2.2.1
        have q3 := rq.2.2.2
        have rz := hb9.rb.c2
        have z0 := rz.1
        have z1 := rz.2
        have rr := hb9.rr.c2
        have r0 := rr.1
        have r1 := rr.2
        have raa := hb9.ra.c2
        have a0 := raa.1
        have a1 := raa.2
        clear rq rz rr raa
        go_simp
        exact hK.out w9 hb9
      refine FixFrom.run rfl rfl (fun L A w9 hno hu h0 hb9 K hK => ?_) ?_
      · have e25 : A.tmps[25]?.getD undef = .agg #[.int .i64 v.p, .int .i64 v.c, .int .i64 v.h, .int .i64 v.s] := hu 10 25 (by kernel_rfl) rfl
        have e26 : A.tmps[26]?.getD undef = .agg #[.int .i64 x, .int .i64 y] := hu 11 26 (by kernel_rfl) rfl
        clear hu h0
        have rq := hb9.rv.c4
        have q0 := rq.1
        have q1 := rq.2.1
        have q2 := rq.2.2.1
        have q3 := rq.2.2.2
        have rz := hb9.rb.c2
        have z0 := rz.1
        have z1 := rz.2
        have rr := hb9.rr.c2
        have r0 := rr.1
        have r1 := rr.2
        have raa := hb9.ra.c2
        have a0 := raa.1
        have a1 := raa.2
        clear rq rz rr raa
        go_simp
        refine (C1.out w9).mono ?_
        rintro e w2 ⟨rfl, hv2⟩
        exact hK.out w2 (hb9.below hv2)
      refine FixFrom.run rfl rfl (fun L A w9 hno hu h0 hb9 K hK => ?_) ?_
      · have e15 : A.tmps[15]?.getD undef = .agg #[.int .i64 v.p, .int .i64 v.c, .int .i64 v.h, .int .i64 v.s] := hu 0 15 (by kernel_rfl) rfl
        have e23 : A.tmps[23]?.getD undef = .bool false := hu 8 23 (by kernel_rfl) rfl
        have e24 : A.tmps[24]?.getD undef = .int .i64 d := hu 9 24 (by kernel_rfl) rfl
        have e27 : A.tmps[27]?.getD undef = .bool c1 := hu 12 27 (by kernel_rfl) rfl
        clear hu h0
        have rq := hb9.rv.c4
        have q0 := rq.1
        have q1 := rq.2.1
        have q2 := rq.2.2.1
        have q3 := rq.2.2.2
        have rz := hb9.rb.c2
        have z0 := rz.1
        have z1 := rz.2
        have rr := hb9.rr.c2
        have r0 := rr.1
        have r1 := rr.2
        have raa := hb9.ra.c2
        have a0 := raa.1
        have a1 := raa.2
        clear rq rz rr raa
        go_simp
        refine (C2.out w9).mono ?_
        rintro e w2 ⟨rfl, hv2⟩
        exact hK.out w2 (hb9.below hv2)
      refine FixFrom.run rfl rfl (fun L A w9 hno hu h0 hb9 K hK => ?_) ?_
      · have e28 : A.tmps[28]?.getD undef = .int .i64 z := hu 13 28 (by kernel_rfl) rfl
        clear hu h0
        have rq := hb9.rv.c4
        have q0 := rq.1
        have q1 := rq.2.1
        have q2 := rq.2.2.1
        have q3 := rq.2.2.2
        have rz := hb9.rb.c2
        have z0 := rz.1
        have z1 := rz.2
        have rr := hb9.rr.c2
        have r0 := rr.1
        have r1 := rr.2
        have raa := hb9.ra.c2
        have a0 := raa.1
        have a1 := raa.2
        clear rq rz rr raa
        go_simp
        exact hK.out w9 hb9
      exact FixFrom.nil (by decide)
    case fin1 =>
      intro w9 hb9
      simp only [Fr, Act.put, List.setIfInBounds_toArray, List.set_cons_zero, List.set_cons_succ, Nat.reduceAdd, List.getD_cons_zero, List.getD_cons_succ]
      have K := hb9
      clear hb9
      obtain ⟨q0, q1, q2, q3⟩ := K.rv.c4
      obtain ⟨z0, z1⟩ := K.rb.c2
      obtain ⟨r0, r1⟩ := K.rr.c2
      obtain ⟨a0, a1⟩ := K.ra.c2
      have hl1 := K.rv.lt
      have hl2 := K.rb.lt
      have hl3 := K.rr.lt
      have hl4 := K.ra.lt
      by_cases h0 : z = 0
      · have hLR := HR.out
        rw [if_pos h0] at hLR
        have e0 : (z != 0) = false := by simp [h0]
        have CL := Lib.hid (CL.out h0 w9 K.bel)
        have H0 := Lib.hid h0
        have HLR := Lib.hid hLR
        clear h0 HR hLR
        go_wp2_with fail
        refine CL.out.mono ?_
        rintro e w4 ⟨rfl, hb4⟩
        have K := K.below hb4
        cases lf2
        case false =>
          have hq := HLR.out
          have HG := Lib.hid (fun _ : Unit => Prod.mk.inj hq)
          clear HLR hq
          go_wp2_with fail
          go_ret2
          refine ⟨?_, K.bel⟩
          rw [(HG.out ()).1, (HG.out ()).2]
          rfl
        case true =>
          have hq := HLR.out
          have HG := Lib.hid (fun _ : Unit => Prod.mk.inj hq)
          clear HLR hq
          go_wp2_with fail
          go_ret2
          refine ⟨?_, K.bel⟩
          rw [(HG.out ()).1, (HG.out ()).2]
          rfl
      · have hLR := HR.out
        rw [if_neg h0] at hLR
        have e0 : (z != 0) = true := by simp [h0]
        have HG := Lib.hid (fun _ : Unit => Prod.mk.inj hLR)
        clear h0 HR hLR CL
        go_wp2_with fail
        go_ret2
        refine ⟨?_, K.bel⟩
        rw [(HG.out ()).1, (HG.out ()).2]
        rfl
  case true =>
    refine region_fix [some 15, some 16, some 17, some 18, some 19, some 20, some 21, some 22, some 23, some 24, some 25, some 26, some 27, some 28, some 12] (fun j_ => ([.agg #[.int .i64 v.p, .int .i64 v.c, .int .i64 v.h, .int .i64 v.s], .agg #[.int .i64 v.p, .int .i64 v.c, .int .i64 v.h, .int .i64 v.s], .agg #[.slice Ao n1 co, .slice At n2 ct], .bool true, .bool true, .agg #[.int .i64 v.p, .int .i64 v.c, .int .i64 v.h, .int .i64 v.s], .agg #[.slice Bo n3 do_, .slice Bt n4 dt], .bool ca, .bool ca, .int .i64 d, .agg #[.int .i64 v.p, .int .i64 v.c, .int .i64 v.h, .int .i64 v.s], .agg #[.int .i64 x, .int .i64 y], .bool c1, .int .i64 z, .int .i64 z] : List Value).getD j_ undef) (fun L w' => B4 w w' v [.slice Ao n1 co, .slice At n2 ct] x y [.slice Bo n3 do_, .slice Bt n4 dt]) (by kernel_rfl) (by kernel_rfl) (by kernel_rfl) (by kernel_rfl) (by first | kernel_rfl | rfl) (by first | kernel_rfl | rfl) ?hB2 ?hBL2 ?hst2 ?fin2
    case hB2 => exact K.drew
    case hBL2 => exact fun _ _ _ _ h => h
    case hst2 =>
      refine FixFrom.run rfl rfl (fun L A w9 hno hu h0 hb9 K hK => ?_) ?_
      · have e5 : A.tmps[5]?.getD undef = .pointer (some ⟨w.heap.size, 0, none⟩) := h0 5 (by decide)
        clear hu h0
        have rq := hb9.rv.c4
        have q0 := rq.1
        have q1 := rq.2.1
        have q2 := rq.2.2.1
        have q3 := rq.2.2.2
        have rz := hb9.rb.c2
        have z0 := rz.1
        have z1 := rz.2
        have rr := hb9.rr.c2
        have r0 := rr.1
        have r1 := rr.2
        have raa := hb9.ra.c2
        have a0 := raa.1
        have a1 := raa.2
        clear rq rz rr raa
        go_simp
        exact hK.out w9 hb9
      refine FixFrom.run rfl rfl (fun L A w9 hno hu h0 hb9 K hK => ?_) ?_
      · have e5 : A.tmps[5]?.getD undef = .pointer (some ⟨w.heap.size, 0, none⟩) := h0 5 (by decide)
        clear hu h0
        have rq := hb9.rv.c4
        have q0 := rq.1
        have q1 := rq.2.1
        have q2 := rq.2.2.1
        have q3 := rq.2.2.2
        have rz := hb9.rb.c2
        have z0 := rz.1
        have z1 := rz.2
        have rr := hb9.rr.c2
        have r0 := rr.1
        have r1 := rr.2
        have raa := hb9.ra.c2
        have a0 := raa.1
        have a1 := raa.2
        clear rq rz rr raa
        go_simp
        exact hK.out w9 hb9
      refine FixFrom.run rfl rfl (fun L A w9 hno hu h0 hb9 K hK => ?_) ?_
      · have e6 : A.tmps[6]?.getD undef = .pointer (some ⟨w.heap.size + 1, 0, none⟩) := h0 6 (by decide)
        clear hu h0
        have rq := hb9.rv.c4
        have q0 := rq.1
        have q1 := rq.2.1
        have q2 := rq.2.2.1
        have q3 := rq.2.2.2
        have rz := hb9.rb.c2
        have z0 := rz.1
        have z1 := rz.2
        have rr := hb9.rr.c2
        have r0 := rr.1
        have r1 := rr.2
        have raa := hb9.ra.c2
        have a0 := raa.1
        have a1 := raa.2
        clear rq rz rr raa
        go_simp
        exact hK.out w9 hb9
      refine FixFrom.run rfl rfl (fun L A w9 hno hu h0 hb9 K hK => ?_) ?_
      · have e16 : A.tmps[16]?.getD undef = .agg #[.int .i64 v.p, .int .i64 v.c, .int .i64 v.h, .int .i64 v.s] := hu 1 16 (by kernel_rfl) rfl
        have e17 : A.tmps[17]?.getD undef = .agg #[.slice Ao n1 co, .slice At n2 ct] := hu 2 17 (by kernel_rfl) rfl
        clear hu h0
        have rq := hb9.rv.c4
        have q0 := rq.1
        have q1 := rq.2.1
        have q2 := rq.2.2.1
        have q3 := rq.2.2.2
        have rz := hb9.rb.c2
        have z0 := rz.1
        have z1 := rz.2
        have rr := hb9.rr.c2
        have r0 := rr.1
        have r1 := rr.2
        have raa := hb9.ra.c2
        have a0 := raa.1
        have a1 := raa.2
        clear rq rz rr raa
        go_simp
        refine (C0.out w9 hb9.bel).mono ?_
        rintro e w2 ⟨rfl, hv2⟩
        exact hK.out w2 (hb9.below hv2)
      refine FixFrom.run rfl rfl (fun L A w9 hno hu h0 hb9 K hK => ?_) ?_
      · have e18 : A.tmps[18]?.getD undef = .bool true := hu 3 18 (by kernel_rfl) rfl
        clear hu h0
        have rq := hb9.rv.c4
        have q0 := rq.1
        have q1 := rq.2.1
        have q2 := rq.2.2.1
        have q3 := rq.2.2.2
        have rz := hb9.rb.c2
        have z0 := rz.1
        have z1 := rz.2
        have rr := hb9.rr.c2
        have r0 := rr.1
        have r1 := rr.2
        have raa := hb9.ra.c2
        have a0 := raa.1
        have a1 := raa.2
        clear rq rz rr raa
        go_simp
        exact hK.out w9 hb9
      refine FixFrom.run rfl rfl (fun L A w9 hno hu h0 hb9 K hK => ?_) ?_
      · have e5 : A.tmps[5]?.getD undef = .pointer (some ⟨w.heap.size, 0, none⟩) := h0 5 (by decide)
        clear hu h0
        have rq := hb9.rv.c4
        have q0 := rq.1
        have q1 := rq.2.1
        have q2 := rq.2.2.1
        have q3 := rq.2.2.2
        have rz := hb9.rb.c2
        have z0 := rz.1
        have z1 := rz.2
        have rr := hb9.rr.c2
        have r0 := rr.1
        have r1 := rr.2
        have raa := hb9.ra.c2
        have a0 := raa.1
        have a1 := raa.2
        clear rq rz rr raa
        go_simp
        exact hK.out w9 hb9
      refine FixFrom.run rfl rfl (fun L A w9 hno hu h0 hb9 K hK => ?_) ?_
      · have e8 : A.tmps[8]?.getD undef = .pointer (some ⟨w.heap.size + 3, 0, none⟩) := h0 8 (by decide)
        clear hu h0
        have rq := hb9.rv.c4
        have q0 := rq.1
        have q1 := rq.2.1
        have q2 := rq.2.2.1
        have q3 := rq.2.2.2
        have rz := hb9.rb.c2
        have z0 := rz.1
        have z1 := rz.2
        have rr := hb9.rr.c2
        have r0 := rr.1
        have r1 := rr.2
        have raa := hb9.ra.c2
        have a0 := raa.1
        have a1 := raa.2
        clear rq rz rr raa
        go_simp
        exact hK.out w9 hb9
      refine FixFrom.run rfl rfl (fun L A w9 hno hu h0 hb9 K hK => ?_) ?_
      · have e20 : A.tmps[20]?.getD undef = .agg #[.int .i64 v.p, .int .i64 v.c, .int .i64 v.h, .int .i64 v.s] := hu 5 20 (by kernel_rfl) rfl
        have e21 : A.tmps[21]?.getD undef = .agg #[.slice Bo n3 do_, .slice Bt n4 dt] := hu 6 21 (by kernel_rfl) rfl
        clear hu h0
        have rq := hb9.rv.c4
        have q0 := rq.1
        have q1 := rq.2.1
        have q2 := rq.2.2.1
        have q3 := rq.2.2.2
        have rz := hb9.rb.c2
        have z0 := rz.1
        have z1 := rz.2
        have rr := hb9.rr.c2
        have r0 := rr.1
        have r1 := rr.2
        have raa := hb9.ra.c2
        have a0 := raa.1
        have a1 := raa.2
        clear rq rz rr raa
        go_simp
        refine (C9.out w9 hb9.bel).mono ?_
        rintro e w2 ⟨rfl, hv2⟩
        exact hK.out w2 (hb9.below hv2)
      refine FixFrom.run rfl rfl (fun L A w9 hno hu h0 hb9 K hK => ?_) ?_
      · have e19 : A.tmps[19]?.getD undef = .bool true := hu 4 19 (by kernel_rfl) rfl
        have e22 : A.tmps[22]?.getD undef = .bool ca := hu 7 22 (by kernel_rfl) rfl
        clear hu h0
        have rq := hb9.rv.c4
        have q0 := rq.1
        have q1 := rq.2.1
        have q2 := rq.2.2.1
        have q3 := rq.2.2.2
        have rz := hb9.rb.c2
        have z0 := rz.1
        have z1 := rz.2
        have rr := hb9.rr.c2
        have r0 := rr.1
        have r1 := rr.2
        have raa := hb9.ra.c2
        have a0 := raa.1
        have a1 := raa.2
        clear rq rz rr raa
        go_simp
        exact hK.out w9 hb9
      refine FixFrom.run rfl rfl (fun L A w9 hno hu h0 hb9 K hK => ?_) ?_
      · have e4 : A.tmps[4]?.getD undef = .int .i64 d := h0 4 (by decide)
        clear hu h0
        have rq := hb9.rv.c4
        have q0 := rq.1
        have q1 := rq.2.1
        have q2 := rq.2.2.1
        have q3 := rq.2.2.2
        have rz := hb9.rb.c2
        have z0 := rz.1
        have z1 := rz.2
        have rr := hb9.rr.c2
        have r0 := rr.1
        have r1 := rr.2
        have raa := hb9.ra.c2
        have a0 := raa.1
        have a1 := raa.2
        clear rq rz rr raa
        go_simp
        exact hK.out w9 hb9
      refine FixFrom.run rfl rfl (fun L A w9 hno hu h0 hb9 K hK => ?_) ?_
      · have e5 : A.tmps[5]?.getD undef = .pointer (some ⟨w.heap.size, 0, none⟩) := h0 5 (by decide)
        clear hu h0
        have rq := hb9.rv.c4
        have q0 := rq.1
        have q1 := rq.2.1
        have q2 := rq.2.2.1
        have q3 := rq.2.2.2
        have rz := hb9.rb.c2
        have z0 := rz.1
        have z1 := rz.2
        have rr := hb9.rr.c2
        have r0 := rr.1
        have r1 := rr.2
        have raa := hb9.ra.c2
        have a0 := raa.1
        have a1 := raa.2
        clear rq rz rr raa
        go_simp
        exact hK.out w9 hb9
      refine FixFrom.run rfl rfl (fun L A w9 hno hu h0 hb9 K hK => ?_) ?_
      · have e7 : A.tmps[7]?.getD undef = .pointer (some ⟨w.heap.size + 2, 0, none⟩) := h0 7 (by decide)
        clear hu h0
        have rq := hb9.rv.c4
        have q0 := rq.1
        have q1 := rq.2.1
        have q2 := rq.2.2.1
        have q3 := rq.2.2.2
        have rz := hb9.rb.c2
        have z0 := rz.1
        have z1 := rz.2
        have rr := hb9.rr.c2
        have r0 := rr.1
        have r1 := rr.2
        have raa := hb9.ra.c2
        have a0 := raa.1
        have a1 := raa.2
        clear rq rz rr raa
        go_simp
        exact hK.out w9 hb9
      refine FixFrom.run rfl rfl (fun L A w9 hno hu h0 hb9 K hK => ?_) ?_
      · have e25 : A.tmps[25]?.getD undef = .agg #[.int .i64 v.p, .int .i64 v.c, .int .i64 v.h, .int .i64 v.s] := hu 10 25 (by kernel_rfl) rfl
        have e26 : A.tmps[26]?.getD undef = .agg #[.int .i64 x, .int .i64 y] := hu 11 26 (by kernel_rfl) rfl
        clear hu h0
        have rq := hb9.rv.c4
        have q0 := rq.1
        have q1 := rq.2.1
        have q2 := rq.2.2.1
        have q3 := rq.2.2.2
        have rz := hb9.rb.c2
        have z0 := rz.1
        have z1 := rz.2
        have rr := hb9.rr.c2
        have r0 := rr.1
        have r1 := rr.2
        have raa := hb9.ra.c2
        have a0 := raa.1
        have a1 := raa.2
        clear rq rz rr raa
        go_simp
        refine (C1.out w9).mono ?_
        rintro e w2 ⟨rfl, hv2⟩
        exact hK.out w2 (hb9.below hv2)
      refine FixFrom.run rfl rfl (fun L A w9 hno hu h0 hb9 K hK => ?_) ?_
      · have e15 : A.tmps[15]?.getD undef = .agg #[.int .i64 v.p, .int .i64 v.c, .int .i64 v.h, .int .i64 v.s] := hu 0 15 (by kernel_rfl) rfl
        have e23 : A.tmps[23]?.getD undef = .bool ca := hu 8 23 (by kernel_rfl) rfl
        have e24 : A.tmps[24]?.getD undef = .int .i64 d := hu 9 24 (by kernel_rfl) rfl
        have e27 : A.tmps[27]?.getD undef = .bool c1 := hu 12 27 (by kernel_rfl) rfl
        clear hu h0
        have rq := hb9.rv.c4
        have q0 := rq.1
        have q1 := rq.2.1
        have q2 := rq.2.2.1
        have q3 := rq.2.2.2
        have rz := hb9.rb.c2
        have z0 := rz.1
        have z1 := rz.2
        have rr := hb9.rr.c2
        have r0 := rr.1
        have r1 := rr.2
        have raa := hb9.ra.c2
        have a0 := raa.1
        have a1 := raa.2
        clear rq rz rr raa
        go_simp
        refine (C2.out w9).mono ?_
        rintro e w2 ⟨rfl, hv2⟩
        exact hK.out w2 (hb9.below hv2)
      refine FixFrom.run rfl rfl (fun L A w9 hno hu h0 hb9 K hK => ?_) ?_
      · have e28 : A.tmps[28]?.getD undef = .int .i64 z := hu 13 28 (by kernel_rfl) rfl
        clear hu h0
        have rq := hb9.rv.c4
        have q0 := rq.1
        have q1 := rq.2.1
        have q2 := rq.2.2.1
        have q3 := rq.2.2.2
        have rz := hb9.rb.c2
        have z0 := rz.1
        have z1 := rz.2
        have rr := hb9.rr.c2
        have r0 := rr.1
        have r1 := rr.2
        have raa := hb9.ra.c2
        have a0 := raa.1
        have a1 := raa.2
        clear rq rz rr raa
        go_simp
        exact hK.out w9 hb9
      exact FixFrom.nil (by decide)
    case fin2 =>
      intro w9 hb9
      simp only [Fr, Act.put, List.setIfInBounds_toArray, List.set_cons_zero, List.set_cons_succ, Nat.reduceAdd, List.getD_cons_zero, List.getD_cons_succ]
      have K := hb9
      clear hb9
      obtain ⟨q0, q1, q2, q3⟩ := K.rv.c4
      obtain ⟨z0, z1⟩ := K.rb.c2
      obtain ⟨r0, r1⟩ := K.rr.c2
      obtain ⟨a0, a1⟩ := K.ra.c2
      have hl1 := K.rv.lt
      have hl2 := K.rb.lt
      have hl3 := K.rr.lt
      have hl4 := K.ra.lt
      by_cases h0 : z = 0
      · have hLR := HR.out
        rw [if_pos h0] at hLR
        have e0 : (z != 0) = false := by simp [h0]
        have CL := Lib.hid (CL.out h0 w9 K.bel)
        have H0 := Lib.hid h0
        have HLR := Lib.hid hLR
        clear h0 HR hLR
        go_wp2_with fail
        refine CL.out.mono ?_
        rintro e w4 ⟨rfl, hb4⟩
        have K := K.below hb4
        cases lf2
        case false =>
          have hq := HLR.out
          have HG := Lib.hid (fun _ : Unit => Prod.mk.inj hq)
          clear HLR hq
          go_wp2_with fail
          go_ret2
          refine ⟨?_, K.bel⟩
          rw [(HG.out ()).1, (HG.out ()).2]
          rfl
        case true =>
          have hq := HLR.out
          have HG := Lib.hid (fun _ : Unit => Prod.mk.inj hq)
          clear HLR hq
          go_wp2_with fail
          go_ret2
          refine ⟨?_, K.bel⟩
          rw [(HG.out ()).1, (HG.out ()).2]
          rfl
      · have hLR := HR.out
        rw [if_neg h0] at hLR
        have e0 : (z != 0) = true := by simp [h0]
        have HG := Lib.hid (fun _ : Unit => Prod.mk.inj hLR)
        clear h0 HR hLR CL
        go_wp2_with fail
        go_ret2
        refine ⟨?_, K.bel⟩
        rw [(HG.out ()).1, (HG.out ()).2]
        rfl

set_option maxHeartbeats 8000000 in
set_option maxRecDepth 100000 in
theorem lossX_s (v : Vr) (b : Bd) (Ao At : Option Addr) (co ct : Nat) (x y : Int) (a : Bd) (Bo Bt : Option Addr) (do_ dt : Nat) (d : Int) (w : World) (ho : RdS w w.heap.size 1 enI Ao b.1) (ht : RdS w w.heap.size 1 enI At b.2) (hA : Ao = none → co = 0) (hT : At = none → ct = 0) (ko : RdS w w.heap.size 1 enI Bo a.1) (kt : RdS w w.heap.size 1 enI Bt a.2) :
    Calls Try.prog 13 #[.agg #[.int .i64 v.p, .int .i64 v.c, .int .i64 v.h, .int .i64 v.s], .agg #[.slice Ao b.1.length co, .slice At b.2.length ct], .agg #[.int .i64 x, .int .i64 y], .agg #[.slice Bo a.1.length do_, .slice Bt a.2.length dt], .int .i64 d] w fun e w' => e = .returned (.tuple #[.int .i64 (lossR v b x y a d).1, .int .i64 (lossR v b x y a d).2]) ∧ Below w.heap.size w w' := by
  obtain ⟨ca, h9⟩ : ∃ c, okB v a = c := ⟨_, rfl⟩
  obtain ⟨z, hz⟩ : ∃ z, codeT v (okB v b && okB v a) (okR v x y) d = z := ⟨_, rfl⟩
  obtain ⟨zc, hz1⟩ : ∃ z, codeT v (okB v b) (okR v x y) d = z := ⟨_, rfl⟩
  have hzz := codeT_and v b a (okR v x y) d
  rw [hz, hz1, h9] at hzz
  have C9 := Lib.hid (fun (w9 : World) (h : Below w.heap.size w w9) => isB_s v a Bo Bt do_ dt w.heap.size w9 h.size (ko.below h (Nat.le_refl _)) (kt.below h (Nat.le_refl _)) ca h9)
  have C2 := Lib.hid (fun (w9 : World) (hw : Below w.heap.size w w9) => code_s v b Ao At co ct x y d zc hz1 w9 ((ho.below hw (Nat.le_refl _)).more hw.size) ((ht.below hw (Nat.le_refl _)).more hw.size))
  obtain ⟨LF, hLF⟩ : ∃ l, lossF v d.toNat b x y a = l := ⟨_, rfl⟩
  have hR0 : lossR v b x y a d = if z = 0 then (if LF.2 = true then (LF.1, 0) else (0, 4)) else (0, z) := by unfold lossR; rw [hz, hLF]
  obtain ⟨Rz, hRz⟩ : ∃ r, lossR v b x y a d = r := ⟨_, rfl⟩
  rw [hRz] at hR0 ⊢
  obtain ⟨g1, g2⟩ := Rz
  have HR := Lib.hid hR0
  simp only
  obtain ⟨n1, hn1⟩ : ∃ n, b.1.length = n := ⟨_, rfl⟩
  obtain ⟨n2, hn2⟩ : ∃ n, b.2.length = n := ⟨_, rfl⟩
  obtain ⟨n3, hn3⟩ : ∃ n, a.1.length = n := ⟨_, rfl⟩
  obtain ⟨n4, hn4⟩ : ∃ n, a.2.length = n := ⟨_, rfl⟩
  have HARG := Lib.hid (⟨hz, hLF, ho, ht, hA, hT, ko, kt, hn1, hn2, hn3, hn4⟩ : codeT v (okB v b && okB v a) (okR v x y) d = z ∧ lossF v d.toNat b x y a = LF ∧ RdS w w.heap.size 1 enI Ao b.1 ∧ RdS w w.heap.size 1 enI At b.2 ∧ (Ao = none → co = 0) ∧ (At = none → ct = 0) ∧ RdS w w.heap.size 1 enI Bo a.1 ∧ RdS w w.heap.size 1 enI Bt a.2 ∧ b.1.length = n1 ∧ b.2.length = n2 ∧ a.1.length = n3 ∧ a.2.length = n4)
  rw [hn1, hn2] at C2 ⊢
  rw [hn3, hn4] at C9 ⊢
  have HZZ := Lib.hid hzz
  clear ho ht hA hT ko kt h9 hz hz1 hn1 hn2 hn3 hn4 hR0 hRz hLF hzz
  go_enter Try.func13, Try.ntmps13
  go_upto_region 1 with (fail)
  refine wp_gen (fun W' => B4 w W' v [.slice Ao n1 co, .slice At n2 ct] x y [.slice Bo n3 do_, .slice Bt n4 dt]) ⟨by go_grown, (((RowB.new _ _ _).alloc _).alloc _).alloc _, RowB.alloc (RowB.alloc (RowB.new' _ _ _ (by simp)) _) _, RowB.alloc (RowB.new' _ _ _ (by simp)) _, RowB.new' _ _ _ (by simp)⟩ ?_
  intro w1 K
  obtain ⟨q0, q1, q2, q3⟩ := K.rv.c4
  obtain ⟨z0, z1⟩ := K.rb.c2
  obtain ⟨r0, r1⟩ := K.rr.c2
  obtain ⟨a0, a1⟩ := K.ra.c2
  have hl1 := K.rv.lt
  have hl2 := K.rb.lt
  have hl3 := K.rr.lt
  have hl4 := K.ra.lt
  go_wp2_with fail
  refine (C2.out w1 K.bel).mono ?_
  rintro e w2 ⟨rfl, hb2⟩
  have K := K.below hb2
  clear q0 q1 q2 q3 z0 z1 r0 r1 a0 a1 hl1 hl2 hl3 hl4 hb2 C2
  obtain ⟨q0, q1, q2, q3⟩ := K.rv.c4
  obtain ⟨z0, z1⟩ := K.rb.c2
  obtain ⟨r0, r1⟩ := K.rr.c2
  obtain ⟨a0, a1⟩ := K.ra.c2
  have hl1 := K.rv.lt
  have hl2 := K.rb.lt
  have hl3 := K.rr.lt
  have hl4 := K.ra.lt
  by_cases h1 : zc = 1
  · have e1 : (zc != 1) = false := by simp [h1]
    have e2 : (zc != 0) = true := by simp; omega
    have hz : z = zc := by rw [HZZ.out, if_neg (fun h => h.1 h1)]
    have hLR := HR.out
    rw [if_neg (by omega), hz] at hLR
    have HG := Lib.hid (fun _ : Unit => Prod.mk.inj hLR)
    clear h1 hz hLR HR HZZ
    go_wp2_with fail
    go_ret2
    refine ⟨?_, K.bel⟩
    rw [(HG.out ()).1, (HG.out ()).2]
    rfl
  have e1 : (zc != 1) = true := by simp [h1]
  go_wp2_with fail
  refine (C9.out w2 K.bel).mono ?_
  rintro e w3 ⟨rfl, hb3⟩
  have K := K.below hb3
  clear q0 q1 q2 q3 z0 z1 r0 r1 a0 a1 hl1 hl2 hl3 hl4 hb3 C9
  cases ca
  case false =>
    have hz : z = 1 := by rw [HZZ.out, if_pos ⟨h1, rfl⟩]
    have hLR := HR.out
    rw [if_neg (by omega), hz] at hLR
    have HG := Lib.hid (fun _ : Unit => Prod.mk.inj hLR)
    clear h1 hz hLR HR HZZ
    go_wp2_with fail
    go_ret2
    refine ⟨?_, K.bel⟩
    rw [(HG.out ()).1, (HG.out ()).2]
    rfl
  have hz : z = zc := by rw [HZZ.out, if_neg (fun h => by simp at h)]
  have H1 := Lib.hid (fun _ : Unit => h1)
  clear h1
  by_cases h0 : zc = 0
  · have e2 : (zc != 0) = false := by simp [h0]
    have hLR := HR.out
    rw [if_pos (by omega)] at hLR
    have HLR := Lib.hid hLR
    obtain ⟨p1, p2, ho, ht, hA, hT, ko, kt, hn1, hn2, hn3, hn4⟩ := HARG.out
    obtain ⟨hk1, hk2⟩ := codeT_zero2 (p1.trans (hz.trans h0))
    have hk := codeT_zero hk1
    have hr := okR_iff.1 hk.2.1
    have hb := hk.1
    obtain ⟨dn, hdn⟩ : ∃ n : Nat, d = (n : Int) := ⟨d.toNat, by omega⟩
    have hd1 : dn ≤ 1 := by omega
    have hxx : (1 ≤ x ∧ x ≤ 6) ∧ (1 ≤ y ∧ y ≤ 6) := by omega
    rw [hdn, Int.toNat_natCast] at p2
    have hlen : n3 = n1 ∧ n4 = n1 ∧ n2 = n1 ∧ 0 < n1 ∧ n1 ≤ 1000 := by
      have h1 := hb.own.len; have h2 := hb.oth.len; have h3 := hk2.own.len; have h4 := hk2.oth.len; have h5 := hb.v1; omega
    obtain ⟨rfl, rfl, rfl, hn0, hn9⟩ := hlen
    have hpb := pls_bd (d := dn) hb hxx.1.1 hxx.2.1
    have hzl : (allP v b x y).1.length = (plsP v dn b x y).length := by unfold plsP; rw [List.length_map]
    have HPO := (allP_ok (x := x) (y := y) hb hxx.1.1 hxx.2.1).1
    have CA := Lib.hid (fun (w9 : World) (h : Below w.heap.size w w9) => all_s v b hb Ao At co ct x y hxx.1 hxx.2 w9 ((ho.below h (Nat.le_refl _)).more h.size) ((ht.below h (Nat.le_refl _)).more h.size) hA hT)
    have CP := Lib.hid (fun (w9 : World) (h : Below w.heap.size w w9) => (vals_s dn (by omega)).2 v b hb Ao At co ct x y hxx.1 hxx.2 w9 ((ho.below h (Nat.le_refl _)).more h.size) ((ht.below h (Nat.le_refl _)).more h.size) hA hT)
    unfold lossF lossP at p2
    have hfdb := fd_bd (allP v b x y).1 a 0
    obtain ⟨zs, hzs⟩ : ∃ z, plsP v dn b x y = z := ⟨_, rfl⟩
    rw [hzs] at CP p2 hpb hzl
    obtain ⟨ps, hps⟩ : ∃ ps, (allP v b x y).1 = ps := ⟨_, rfl⟩
    obtain ⟨fb, hfb⟩ : ∃ ps, (allP v b x y).2 = ps := ⟨_, rfl⟩
    rw [hps] at CA p2 hzl HPO hfdb
    rw [hfb] at CA
    obtain ⟨fd, hfd⟩ : ∃ f, fdP ps a 0 = f := ⟨_, rfl⟩
    rw [hfd] at p2 hfdb
    rw [hzl] at hfdb
    have HPS := Lib.hid (fun (w9 : World) (h : Below w.heap.size w w9) (u : Value) (hu : SlG RelP 3 enP w9 All u ps) => find2_s ps a _ ⟨hn0, hn9⟩ (fun q hq => by have h1 := (HPO q hq).1.own.len; have h2 := (HPO q hq).1.oth.len; have h3 := hb.own.len; omega) hn3 hn4 u Bo Bt do_ dt w.heap.size w9 h.size hu (ko.below h (Nat.le_refl _)) (kt.below h (Nat.le_refl _)))
    rw [hfd] at HPS
    rw [hn1, hn2] at CA CP
    obtain ⟨Ln, hLn⟩ : ∃ l, zs.length = l := ⟨_, rfl⟩
    have HLn := Lib.hid hLn
    have C29 := Lib.hid (fun (k : Nat) (hk : k < Ln) (A : Option Addr) (cp : Nat) (w9 : World) (hr : RdS w9 w9.heap.size 1 enI A zs) => loss29 zs Ln hLn k hk hpb.1 A cp w9 hr)
    rw [hLn] at hfdb
    have HP2 := Lib.hid p2
    have HDN := Lib.hid hdn
    rw [← hdn] at CP
    clear HARG HR HZZ p1 p2 ho ht hA hT ko kt hn1 hn2 hn3 hn4 hk1 hk2 hk hr hb hxx hpb hzl HPO hzs hps hfb hfd hLn hLR hz h0 hdn
    obtain ⟨q0, q1, q2, q3⟩ := K.rv.c4
    obtain ⟨z0, z1⟩ := K.rb.c2
    obtain ⟨r0, r1⟩ := K.rr.c2
    obtain ⟨a0, a1⟩ := K.ra.c2
    have hl1 := K.rv.lt
    have hl2 := K.rb.lt
    have hl3 := K.rr.lt
    have hl4 := K.ra.lt
    go_wp2_with fail
    refine (CA.out w3 K.bel).mono ?_
    rintro e w4 ⟨pv, rfl, hog, hb4⟩
    have K := K.below hb4
    have HA := (relSl RelP 3 enP).weak (hog.sl enP_len (Nat.le_refl _)) (S' := All) (fun _ _ _ => trivial)
    clear q0 q1 q2 q3 z0 z1 r0 r1 a0 a1 hl1 hl2 hl3 hl4 hb4 hog CA
    obtain ⟨q0, q1, q2, q3⟩ := K.rv.c4
    obtain ⟨z0, z1⟩ := K.rb.c2
    obtain ⟨r0, r1⟩ := K.rr.c2
    obtain ⟨a0, a1⟩ := K.ra.c2
    have hl1 := K.rv.lt
    have hl2 := K.rb.lt
    have hl3 := K.rr.lt
    have hl4 := K.ra.lt
    go_wp2_with fail
    refine (HPS.out w4 K.bel pv HA).mono ?_
    rintro e w5 ⟨rfl, hb5⟩
    have K := K.below hb5
    clear q0 q1 q2 q3 z0 z1 r0 r1 a0 a1 hl1 hl2 hl3 hl4 hb5 HA HPS
    obtain ⟨q0, q1, q2, q3⟩ := K.rv.c4
    obtain ⟨z0, z1⟩ := K.rb.c2
    obtain ⟨r0, r1⟩ := K.rr.c2
    obtain ⟨a0, a1⟩ := K.ra.c2
    have hl1 := K.rv.lt
    have hl2 := K.rb.lt
    have hl3 := K.rr.lt
    have hl4 := K.ra.lt
    by_cases hf : fd < 0
    · have hp2 := HP2.out
      rw [if_pos hf] at hp2
      have hq := HLR.out
      rw [← hp2] at hq
      have HG := Lib.hid (fun _ : Unit => Prod.mk.inj hq)
      clear HP2 HLR hp2 hq
      go_wp2_with fail
      go_ret2
      refine ⟨?_, K.bel⟩
      rw [(HG.out ()).1, (HG.out ()).2]
      rfl
    · obtain ⟨k, rfl⟩ : ∃ k : Nat, fd = (k : Int) := ⟨fd.toNat, by omega⟩
      have hkL : k < Ln := by omega
      have hp2 := HP2.out
      rw [if_neg hf, Int.toNat_natCast] at hp2
      have hq := HLR.out
      rw [← hp2] at hq
      have HG := Lib.hid (fun _ : Unit => Prod.mk.inj hq)
      clear HP2 HLR hp2 hq hfdb
      go_wp2_with fail
      refine (CP.out w5 K.bel).mono ?_
      rintro e w6 ⟨vv, rfl, hvo, hb6⟩
      have K := K.below hb6
      obtain ⟨Av, cv, hvv, hvr⟩ := hvo.form enI_len
      rw [HLn.out] at hvv
      subst hvv
      have C29 := Lib.hid (C29.out k hkL Av cv w6 hvr)
      clear q0 q1 q2 q3 z0 z1 r0 r1 a0 a1 hl1 hl2 hl3 hl4 hb6 hvo hvr CP
      go_wp2_with fail
      refine C29.out.mono ?_
      rintro e w7 ⟨rfl, hb7⟩
      have K := K.below hb7
      clear C29
      go_wp2_with fail
      go_ret2
      refine ⟨?_, K.bel⟩
      rw [(HG.out ()).1, (HG.out ()).2]
      rfl
  · have e2 : (zc != 0) = true := by simp [h0]
    have hLR := HR.out
    rw [if_neg (by omega), hz] at hLR
    have HG := Lib.hid (fun _ : Unit => Prod.mk.inj hLR)
    clear h0 hz hLR HR HZZ
    go_wp2_with fail
    go_ret2
    refine ⟨?_, K.bel⟩
    rw [(HG.out ()).1, (HG.out ()).2]
    rfl
end Go.Proofs.Ytfgkkmhafdbicaa.Bd32
