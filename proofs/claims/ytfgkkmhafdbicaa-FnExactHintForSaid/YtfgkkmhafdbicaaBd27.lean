/-
  The value of a board for a depth, and the values of plays: of the reference. Conditions: each theorem's own.
-/
import Derived.Test.YtfgkkmhafdbicaaBd25
set_option linter.unusedVariables false
set_option linter.unusedSimpArgs false
namespace Go.Proofs.Ytfgkkmhafdbicaa.Bd27
open Go.ChangeShapes Go.WideShapes Go.ChangeAt Go.RowKit Base Ints Own Clone RelG PlP Bd1 Bd4 Bd5 Bd6 Bd7 Bd7S Bd8 Bd9 Bd11 RegInv RegF RegG Bd16 Bd17 Bd18 Bd19 Bd20 Bd21 Bd22 Bd23 Bd24 Bd12 Bd14 Bd15 Bd25 Bd26

def SVs (d : Nat) : Prop := ∀ (v : Vr) (b : Bd) (hb : Ok v b) (Ao At : Option Addr) (co ct : Nat) (w : World), RdS w w.heap.size 1 enI Ao b.1 → RdS w w.heap.size 1 enI At b.2 → (Ao = none → co = 0) → (At = none → ct = 0) →
  Calls Try.prog 49 #[.agg #[.int .i64 v.p, .int .i64 v.c, .int .i64 v.h, .int .i64 v.s], .agg #[.slice Ao b.1.length co, .slice At b.2.length ct], .int .i64 (d : Int)] w fun e w' => e = .returned (.int .i64 (valP v d b)) ∧ Below w.heap.size w w'
def PVs (d : Nat) : Prop := ∀ (v : Vr) (b : Bd) (hb : Ok v b) (Ao At : Option Addr) (co ct : Nat) (x y : Int) (hx : 1 ≤ x ∧ x ≤ 6) (hy : 1 ≤ y ∧ y ≤ 6) (w : World), RdS w w.heap.size 1 enI Ao b.1 → RdS w w.heap.size 1 enI At b.2 → (Ao = none → co = 0) → (At = none → ct = 0) →
  Calls Try.prog 34 #[.agg #[.int .i64 v.p, .int .i64 v.c, .int .i64 v.h, .int .i64 v.s], .agg #[.slice Ao b.1.length co, .slice At b.2.length ct], .agg #[.int .i64 x, .int .i64 y], .int .i64 (d : Int)] w fun e w' => ∃ vv, e = .returned vv ∧ OwnS w' w.heap.size w'.heap.size 2 1 enI vv (plsP v d b x y) ∧ Below w.heap.size w w'
/-- A value more is reckoned and appended. -/
structure PlF (w1 : World) (lo : Nat) (u : Value) (zs : List Int) (z : Int) (l m : List Int) (n : Nat) (p7 p11 p12 p13 : Prop) (v7 v11 v12 v13 : Value) (w' : World) : Prop where
  pre : ¬ p12 → Below w1.heap.size w1 w'
  f7 : p7 → ¬ p12 → ∃ A1 c1 A2 c2, v7 = .agg #[.slice A1 n c1, .slice A2 n c2] ∧ OwnV 2 1 enI w' All (.slice A1 n c1) l ∧ OwnV 2 1 enI w' All (.slice A2 n c2) m
  f11 : p11 → ¬ p12 → ∃ g, v11 = .slice (some ⟨g, 0, none⟩) 1 1 ∧ RowB w' g 2 [.int .i64 z]
  f12 : p12 → ∃ g k c, v12 = .slice (some ⟨g, 0, none⟩) k c ∧ OwnS w' lo w'.heap.size 2 1 enI v12 (zs ++ [z]) ∧ w1.grownBy w' u.ownBlock
  f13 : p13 → v13 = v12
section
variable {w1 w' w'' : World} {lo : Nat} {u : Value} {zs : List Int} {z : Int} {l m : List Int} {n : Nat} {p7 p11 p12 p13 : Prop} {v7 v11 v12 v13 v' : Value}
theorem PlF.skip {L : Nat → Prop} {vals : Nat → Value} (F : PlF w1 lo u zs z l m n (L 7) (L 11) (L 12) (L 13) (vals 7) (vals 11) (vals 12) (vals 13) w') (k : Nat) (x : Value) (h7 : 7 ≠ k) (h11 : 11 ≠ k) (h12 : 12 ≠ k) (h13 : 13 ≠ k) :
    PlF w1 lo u zs z l m n (7 = k ∨ L 7) (11 = k ∨ L 11) (12 = k ∨ L 12) (13 = k ∨ L 13) (upd vals k x 7) (upd vals k x 11) (upd vals k x 12) (upd vals k x 13) w' := by
  rw [or_ne h7, or_ne h11, or_ne h12, or_ne h13, upd_ne h7, upd_ne h11, upd_ne h12, upd_ne h13]; exact F
theorem PlF.below (F : PlF w1 lo u zs z l m n p7 p11 p12 p13 v7 v11 v12 v13 w') (n12 : ¬ p12) (hb : Below w'.heap.size w' w'') : PlF w1 lo u zs z l m n p7 p11 p12 p13 v7 v11 v12 v13 w'' :=
  ⟨fun h => (F.pre h).trans (hb.mono (F.pre h).size), fun h hn => by obtain ⟨A1, c1, A2, c2, e, h1, h2⟩ := F.f7 h hn; exact ⟨A1, c1, A2, c2, e, h1.keep (.below hb), h2.keep (.below hb)⟩, fun h hn => by obtain ⟨g, e, h1⟩ := F.f11 h hn; exact ⟨g, e, h1.below hb h1.lt⟩, fun h => absurd h n12, F.f13⟩
theorem PlF.s7 (F : PlF w1 lo u zs z l m n p7 p11 p12 p13 v7 v11 v12 v13 w') {A1 A2 : Option Addr} {c1 c2 : Nat} (n11 : ¬ p11) (n12 : ¬ p12) (hb : Below w'.heap.size w' w'') (h1 : OwnS w'' w'.heap.size w''.heap.size 2 1 enI (.slice A1 n c1) l) (h2 : OwnS w'' w'.heap.size w''.heap.size 2 1 enI (.slice A2 n c2) m) :
    PlF w1 lo u zs z l m n True p11 p12 p13 (.agg #[.slice A1 n c1, .slice A2 n c2]) v11 v12 v13 w'' := by
  have G := F.below n12 hb
  exact ⟨G.pre, fun _ _ => ⟨A1, c1, A2, c2, rfl, own_all h1 (Nat.le_refl _), own_all h2 (Nat.le_refl _)⟩, fun h => absurd h n11, G.f12, G.f13⟩
theorem PlF.s11 (F : PlF w1 lo u zs z l m n p7 p11 p12 p13 v7 v11 v12 v13 w') (n12 : ¬ p12) : PlF w1 lo u zs z l m n p7 True p12 p13 v7 (.slice (some ⟨w'.heap.size, 0, none⟩) 1 1) v12 v13 (w'.alloc (.cells ⟨[.int .i64 z]⟩ 2)) := by
  have G := F.below (w'' := w'.alloc (.cells ⟨[.int .i64 z]⟩ 2)) n12 ((Below.refl _ _).alloc (Nat.le_refl _) _)
  exact ⟨G.pre, G.f7, fun _ _ => ⟨_, rfl, RowB.new _ _ _⟩, G.f12, G.f13⟩
theorem PlF.s12 (F : PlF w1 lo u zs z l m n p7 p11 p12 p13 v7 v11 v12 v13 w') (n13 : ¬ p13) {g k c : Nat} (ho : OwnS w'' lo w''.heap.size 2 1 enI (.slice (some ⟨g, 0, none⟩) k c) (zs ++ [z])) (hg : w1.grownBy w'' u.ownBlock) :
    PlF w1 lo u zs z l m n p7 p11 True p13 v7 v11 (.slice (some ⟨g, 0, none⟩) k c) v13 w'' :=
  ⟨fun h => absurd trivial h, fun _ h => absurd trivial h, fun _ h => absurd trivial h, fun _ => ⟨g, k, c, rfl, ho, hg⟩, fun h => absurd h n13⟩
theorem PlF.s13 (F : PlF w1 lo u zs z l m n p7 p11 p12 p13 v7 v11 v12 v13 w') : PlF w1 lo u zs z l m n p7 p11 p12 True v7 v11 v12 v12 w' := ⟨F.pre, F.f7, F.f11, F.f12, fun _ => rfl⟩
end
/-- Values under way. -/
structure Ps (w wr : World) (v : Vr) (u : Value) (zs : List Int) (pv : Value) (ps : List Pl) (lo : Nat) : Prop where
  bel : Below w.heap.size w wr
  rv : RowB wr w.heap.size 32 [.int .i64 v.p, .int .i64 v.c, .int .i64 v.h, .int .i64 v.s]
  ge : w.heap.size < lo
  gl : lo ≤ wr.heap.size
  og : OwnS wr lo wr.heap.size 2 1 enI u zs
  pl : SlG RelP 3 enP wr (fun b => b < lo) pv ps

set_option maxHeartbeats 8000000 in
set_option maxRecDepth 100000 in
theorem ps_step (d : Nat) (hd : d ≤ 10) (H : SVs d) : PVs d := by
  intro v b hb Ao At co ct x y hx hy w ho ht hA hT
  obtain ⟨i0, hi0, hz0, hz1, hz2⟩ := info_parts Ints.info
  have hv := hb.v1
  obtain ⟨P, hP⟩ : ∃ P : Nat, v.p = (P : Int) := ⟨v.p.toNat, by omega⟩
  have HP := Lib.hid hP
  obtain ⟨n, hn⟩ : ∃ n, P + 1 = n := ⟨_, rfl⟩
  have hn7 : n ≤ 25 := by omega
  have eln : b.1.length = n := by have := hb.own.len; omega
  have emn : b.2.length = n := by have := hb.oth.len; omega
  have CA := Lib.hid (fun (w9 : World) (h : Below w.heap.size w w9) => all_s v b hb Ao At co ct x y hx hy w9 ((ho.below h (Nat.le_refl _)).more h.size) ((ht.below h (Nat.le_refl _)).more h.size) hA hT)
  rw [eln, emn] at CA ⊢
  have hal := all_len hb hx hy
  have HPO := Lib.hid (allP_ok (x := x) (y := y) hb hx.1 hy.1).1
  obtain ⟨zs, hzs⟩ : ∃ zs, plsP v d b x y = zs := ⟨_, rfl⟩
  rw [hzs]
  unfold plsP at hzs
  obtain ⟨ps, hps⟩ : ∃ ps, (allP v b x y).1 = ps := ⟨_, rfl⟩
  obtain ⟨fb, hfb⟩ : ∃ f, (allP v b x y).2 = f := ⟨_, rfl⟩
  rw [hps, hfb] at CA
  rw [hps] at hal hzs HPO
  have HZS := Lib.hid hzs
  obtain ⟨M, hM⟩ : ∃ M, ps.length = M := ⟨_, rfl⟩
  have HM := Lib.hid hM
  have HZL := Lib.hid (show zs.length = M from by rw [← hzs, List.length_map, hM])
  rw [hM] at hal
  have HH := Lib.hid H
  clear hb hv hP eln emn ho ht hA hT hps hfb hzs hM hx hy H
  go_enter Try.func34, Try.ntmps34
  go_upto_region 1 with (fail)
  refine wp_gen (fun W' => Below w.heap.size w W' ∧ RowB W' w.heap.size 32 [.int .i64 v.p, .int .i64 v.c, .int .i64 v.h, .int .i64 v.s] ∧ RowB W' (w.heap.size + 1) 34 [.slice Ao n co, .slice At n ct] ∧ RowB W' (w.heap.size + 2) 36 [.int .i64 x, .int .i64 y]) ⟨by go_grown, ((RowB.new _ _ _).alloc _).alloc _, RowB.alloc (RowB.new' _ _ _ (by simp)) _, RowB.new' _ _ _ (by simp)⟩ ?_
  rintro w1 ⟨hb1, rv, rb, rr⟩
  obtain ⟨q0, q1, q2, q3⟩ := rv.c4
  obtain ⟨z0, z1⟩ := rb.c2
  obtain ⟨r0, r1⟩ := rr.c2
  have hl1 := rv.lt
  have hl2 := rb.lt
  have hl3 := rr.lt
  go_wp2_with fail
  refine (CA.out w1 hb1).mono ?_
  rintro e w2 ⟨pv, rfl, hog, hb2⟩
  have rv := rv.below hb2 rv.lt
  have hb1 := hb1.trans (hb2.mono hb1.size)
  obtain ⟨Aa, ca, hav, -⟩ := Bd19.OwnG.form enP_len hog
  rw [HM.out] at hav
  subst hav
  have HA := hog.sl enP_len (Nat.le_refl _)
  have hlo : w.heap.size + 3 ≤ w1.heap.size := by omega
  have hs2 := hb2.size
  clear q0 q1 q2 q3 z0 z1 r0 r1 hl1 hl2 hl3 rr rb hog CA hb2
  go_upto_region 3 with (fail)
  refine wp_gen (fun W' => Ps w W' v (.slice (some ⟨w2.heap.size, 0, none⟩) 0 0) [] (.slice Aa M ca) ps w2.heap.size) ?_ ?_
  · exact ⟨by go_grown, rv.alloc _, by omega, by simp, RowB.own (xs := ([] : List Int)) (RowB.new w2 2 []) enI_len (Nat.le_refl _) (by simp) (by decide), (relSl RelP 3 enP).keep ((relSl RelP 3 enP).weak HA (fun b _ hb => hb)) (.below (by go_grown))⟩
  intro w3 K
  obtain ⟨lo, hlo2⟩ : ∃ g, w2.heap.size = g := ⟨_, rfl⟩
  rw [hlo2] at K ⊢
  clear hb1 rv HA hlo2 hs2 hlo
  go_wp2_with fail
  go_loopw [11, 12] (fun u i wr => ∃ k : Nat, k ≤ M ∧ i = .int .i64 (k : Int) ∧ Ps w wr v u (zs.take k) (.slice Aa M ca) ps lo) (fun _ i _ => M - (intOf i).toNat)
  case atStart => exact ⟨0, Nat.zero_le _, by first | rfl | trivial, K⟩
  case round =>
    obtain ⟨k, hk, rfl, K⟩ := hrel
    by_cases hlt : k < M
    · obtain ⟨A7, c7, rs7, e7, hrd7, hls7, -⟩ := K.pl
      simp only [Value.slice.injEq] at e7
      obtain ⟨rfl, -, rfl⟩ := e7
      obtain ⟨b7, o7, r7, rfl, -, hb7, hr7, hc7⟩ := hrd7.at_ (i := k) (by rw [hls7.1, HM.out]; exact hlt)
      obtain ⟨p, hp, hR7⟩ := hls7.at_ hr7
      obtain ⟨sp, bd⟩ := p
      have HBD := Lib.hid (HPO.out _ (List.mem_of_getElem? hp)).1
      obtain ⟨X, hX⟩ : ∃ X, valP v d (swp bd) = X := ⟨_, rfl⟩
      have HZ := Lib.hid (show zs.take (k + 1) = zs.take k ++ [1000000 - X] from takeS (by rw [← HZS.out, List.getElem?_map, hp, ← hX]; rfl))
      have HZL2 := Lib.hid (show (zs.take k).length = k from by rw [List.length_take, HZL.out]; omega)
      obtain ⟨Y, hY⟩ : ∃ Y, zs.take k = Y := ⟨_, rfl⟩
      rw [hY] at K HZ HZL2
      obtain ⟨r0, rl, rm⟩ := r7
      have hR0 := hR7.1.sl enSt_len
      have hR1 := hR7.2.1
      have hR2 := hR7.2.2
      simp only at hR0 hR1 hR2 HBD
      obtain ⟨A0, c0', rfl, -⟩ := hR0
      obtain ⟨A3, c3, rfl, k3, hA3⟩ := hR1
      obtain ⟨A4, c4, rfl, k4, hA4⟩ := hR2
      have hl3 : bd.1.length = n := by have := HBD.out.own.len; have := HP.out; omega
      have hl4 : bd.2.length = n := by have := HBD.out.oth.len; have := HP.out; omega
      have PC := Lib.hid (fun (w9 : World) (h : Below wr.heap.size wr w9) => by
        have e := fun (i : Nat) (u : Value) (hu : (enP (.slice A0 sp.length c0', .slice A3 bd.1.length c3, .slice A4 bd.2.length c4))[i]? = some u) => ((Below.cell h (p := ⟨b7, o7 + k * 3 + i, none⟩) hb7).trans (hc7 i u hu))
        have h1 : w9.cell? ⟨b7, o7 + k * 3 + 1, none⟩ = some (.slice A3 n c3) := by have := e 1 _ rfl; simp only [hl3] at this; exact this
        have h2 : w9.cell? ⟨b7, o7 + k * 3 + 2, none⟩ = some (.slice A4 n c4) := by have := e 2 _ rfl; simp only [hl4] at this; exact this
        exact (⟨h1, h2⟩ : w9.cell? ⟨b7, o7 + k * 3 + 1, none⟩ = some (.slice A3 n c3) ∧ w9.cell? ⟨b7, o7 + k * 3 + 2, none⟩ = some (.slice A4 n c4)))
      have hX01 : 0 ≤ X ∧ X ≤ 1000000 := by rw [← hX]; exact val_bd d _ (swp_ok HBD.out)
      have hkn : (k : Int) < (M : Int) := by omega
      have hwk : IntKind.i64.wrap ((k : Int) + 1) = (k : Int) + 1 := IntWalk.i64_in _ (by omega)
      have hwx : IntKind.i64.wrap (1000000 - X) = 1000000 - X := IntWalk.i64_in _ (by omega)
      have CSW := Lib.hid (fun (w9 : World) (h : Below wr.heap.size wr w9) => swap_s bd.1 bd.2 A3 A4 c3 c4 wr.heap.size w9 h.size (k3.rd.below h (Nat.le_refl _)) (k4.rd.below h (Nat.le_refl _)) hA3 hA4 (by omega) (by omega))
      rw [hl3, hl4] at CSW
      have CSV := Lib.hid (fun (w9 : World) (A1 A2 : Option Addr) (c1 c2 : Nat) (h1 : OwnV 2 1 enI w9 All (.slice A1 n c1) bd.2) (h2 : OwnV 2 1 enI w9 All (.slice A2 n c2) bd.1) => HH.out v (swp bd) (swp_ok HBD.out) A1 A2 c1 c2 w9 (Bd25.OwnV.rd_ h1) (Bd25.OwnV.rd_ h2) (Bd25.OwnV.none0 h1) (Bd25.OwnV.none0 h2))
      rw [show (swp bd).1.length = n from hl4, show (swp bd).2.length = n from hl3, hX] at CSV
      have HL3 := Lib.hid hl3
      have HL4 := Lib.hid hl4
      have RV := Lib.hid K.rv
      have OG := Lib.hid K.og
      have PLK := Lib.hid K.pl
      have BE := Lib.hid K.bel
      have hge := K.ge
      have hlw := K.gl
      clear hp hR7 hc7 hrd7 hls7 hr7 k3 k4 hl3 hl4 hA3 hA4 hX hY hb7 K
      go_wp2_with fail
      refine region_rel [some 27, some 28, some 29, some 30, some 31, some 32, some 33, some 34, some 35, some 36, some 37, some 38, some 39, some 11] 14 (Pl [some (u11), some (.agg #[.int .i64 v.p, .int .i64 v.c, .int .i64 v.h, .int .i64 v.s]), some (.slice (some ⟨b7, o7, none⟩) M ca), some (.int .i64 (k : Int)), some (.pointer (some ⟨b7, o7 + k * 3, none⟩)), some (.pointer (some ⟨b7, o7 + k * 3 + 1, none⟩)), some (.agg #[.slice A3 n c3, .slice A4 n c4]), none, some (.int .i64 (d : Int)), some (.int .i64 X), some (.int .i64 (1000000 - X)), none, none, none]) (fun L vals w' => PlF wr lo u11 Y (1000000 - X) bd.2 bd.1 n (L 7) (L 11) (L 12) (L 13) (vals 7) (vals 11) (vals 12) (vals 13) w') (by kernel_rfl) (by kernel_rfl) (by kernel_rfl) (by kernel_rfl) (by kernel_rfl) (by kernel_rfl) (by kernel_rfl) ?g0_2 ?gst_2 ?gfin_2
      case g0_2 => exact ⟨fun _ => (Below.refl _ _).drew, fun h => absurd h (by decide), fun h => absurd h (by decide), fun h => absurd h (by decide), fun h => absurd h (by decide)⟩
      case gst_2 =>
        refine RelFrom.run rfl (fun L vals A w9 hno hdl hcl hu hp h0 F K hK => ?_) ?_
        · have e11 : A.tmps[11]?.getD undef = u11 := h0 11 (fun j hl hj => by obtain rfl := nd_of _ (by kernel_rfl) j 13 11 hj rfl; exact hno (hcl 13 0 (by kernel_rfl) hl))
          clear hu h0 hp
          go_simp
          exact hK.out _ w9 (Pl.fix rfl) (F.skip 0 _ (by decide) (by decide) (by decide) (by decide))
        refine RelFrom.run rfl (fun L vals A w9 hno hdl hcl hu hp h0 F K hK => ?_) ?_
        · have e4 : A.tmps[4]?.getD undef = .pointer (some ⟨w.heap.size, 0, none⟩) := h0 4 (fun j _ hj => absurd (List.mem_of_getElem? hj) (by decide))
          clear hu h0 hp
          have BEL := F.pre (fun h => hno (hcl 12 1 (by kernel_rfl) h))
          have rq := (RV.out.below BEL RV.out.lt).c4
          have q0 := rq.1
          have q1 := rq.2.1
          have q2 := rq.2.2.1
          have q3 := rq.2.2.2
          have pc := PC.out w9 BEL
          have p1 := pc.1
          have p2 := pc.2
          clear rq pc
          go_simp
          exact hK.out _ w9 (Pl.fix rfl) (F.skip 1 _ (by decide) (by decide) (by decide) (by decide))
        refine RelFrom.run rfl (fun L vals A w9 hno hdl hcl hu hp h0 F K hK => ?_) ?_
        · have e9 : A.tmps[9]?.getD undef = .slice (some ⟨b7, o7, none⟩) M ca := h0 9 (fun j _ hj => absurd (List.mem_of_getElem? hj) (by decide))
          clear hu h0 hp
          go_simp
          exact hK.out _ w9 (Pl.fix rfl) (F.skip 2 _ (by decide) (by decide) (by decide) (by decide))
        refine RelFrom.run rfl (fun L vals A w9 hno hdl hcl hu hp h0 F K hK => ?_) ?_
        · have e12 : A.tmps[12]?.getD undef = .int .i64 (k : Int) := h0 12 (fun j _ hj => absurd (List.mem_of_getElem? hj) (by decide))
          clear hu h0 hp
          go_simp
          exact hK.out _ w9 (Pl.fix rfl) (F.skip 3 _ (by decide) (by decide) (by decide) (by decide))
        refine RelFrom.run rfl (fun L vals A w9 hno hdl hcl hu hp h0 F K hK => ?_) ?_
        · have e29 : A.tmps[29]?.getD undef = .slice (some ⟨b7, o7, none⟩) M ca := (hu 2 29 (by kernel_rfl) rfl).trans (hp 2 (by kernel_rfl) _ rfl)
          have e30 : A.tmps[30]?.getD undef = .int .i64 (k : Int) := (hu 3 30 (by kernel_rfl) rfl).trans (hp 3 (by kernel_rfl) _ rfl)
          clear hu h0 hp
          have BEL := F.pre (fun h => hno (hcl 12 4 (by kernel_rfl) h))
          have rq := (RV.out.below BEL RV.out.lt).c4
          have q0 := rq.1
          have q1 := rq.2.1
          have q2 := rq.2.2.1
          have q3 := rq.2.2.2
          have pc := PC.out w9 BEL
          have p1 := pc.1
          have p2 := pc.2
          clear rq pc
          go_simp
          exact hK.out _ w9 (Pl.fix rfl) (F.skip 4 _ (by decide) (by decide) (by decide) (by decide))
        refine RelFrom.run rfl (fun L vals A w9 hno hdl hcl hu hp h0 F K hK => ?_) ?_
        · have e31 : A.tmps[31]?.getD undef = .pointer (some ⟨b7, o7 + k * 3, none⟩) := (hu 4 31 (by kernel_rfl) rfl).trans (hp 4 (by kernel_rfl) _ rfl)
          clear hu h0 hp
          have BEL := F.pre (fun h => hno (hcl 12 5 (by kernel_rfl) h))
          have rq := (RV.out.below BEL RV.out.lt).c4
          have q0 := rq.1
          have q1 := rq.2.1
          have q2 := rq.2.2.1
          have q3 := rq.2.2.2
          have pc := PC.out w9 BEL
          have p1 := pc.1
          have p2 := pc.2
          clear rq pc
          go_simp
          exact hK.out _ w9 (Pl.fix rfl) (F.skip 5 _ (by decide) (by decide) (by decide) (by decide))
        refine RelFrom.run rfl (fun L vals A w9 hno hdl hcl hu hp h0 F K hK => ?_) ?_
        · have e32 : A.tmps[32]?.getD undef = .pointer (some ⟨b7, o7 + k * 3 + 1, none⟩) := (hu 5 32 (by kernel_rfl) rfl).trans (hp 5 (by kernel_rfl) _ rfl)
          clear hu h0 hp
          have BEL := F.pre (fun h => hno (hcl 12 6 (by kernel_rfl) h))
          have rq := (RV.out.below BEL RV.out.lt).c4
          have q0 := rq.1
          have q1 := rq.2.1
          have q2 := rq.2.2.1
          have q3 := rq.2.2.2
          have pc := PC.out w9 BEL
          have p1 := pc.1
          have p2 := pc.2
          clear rq pc
          go_simp
          exact hK.out _ w9 (Pl.fix rfl) (F.skip 6 _ (by decide) (by decide) (by decide) (by decide))
        refine RelFrom.run rfl (fun L vals A w9 hno hdl hcl hu hp h0 F K hK => ?_) ?_
        · have e33 : A.tmps[33]?.getD undef = .agg #[.slice A3 n c3, .slice A4 n c4] := (hu 6 33 (by kernel_rfl) rfl).trans (hp 6 (by kernel_rfl) _ rfl)
          clear hu h0 hp
          have BEL := F.pre (fun h => hno (hcl 12 7 (by kernel_rfl) h))
          go_simp
          refine (CSW.out w9 BEL).mono ?_
          rintro e w6 ⟨A1, c1, A2, c2, rfl, h1, h2, -, hb6⟩
          rw [HL4.out] at h1
          rw [HL3.out] at h2
          simp only [HL3.out, HL4.out]
          exact hK.out _ w6 (Pl.any rfl) (by simpa [upd] using F.s7 (fun h => hno (hcl 11 7 (by kernel_rfl) h)) (fun h => hno (hcl 12 7 (by kernel_rfl) h)) hb6 h1 h2)
        refine RelFrom.run rfl (fun L vals A w9 hno hdl hcl hu hp h0 F K hK => ?_) ?_
        · have e3 : A.tmps[3]?.getD undef = .int .i64 (d : Int) := h0 3 (fun j _ hj => absurd (List.mem_of_getElem? hj) (by decide))
          clear hu h0 hp
          have BEL := F.pre (fun h => hno (hcl 12 8 (by kernel_rfl) h))
          have rq := (RV.out.below BEL RV.out.lt).c4
          have q0 := rq.1
          have q1 := rq.2.1
          have q2 := rq.2.2.1
          have q3 := rq.2.2.2
          have pc := PC.out w9 BEL
          have p1 := pc.1
          have p2 := pc.2
          clear rq pc
          go_simp
          exact hK.out _ w9 (Pl.fix rfl) (F.skip 8 _ (by decide) (by decide) (by decide) (by decide))
        refine RelFrom.run rfl (fun L vals A w9 hno hdl hcl hu hp h0 F K hK => ?_) ?_
        · have e28 : A.tmps[28]?.getD undef = .agg #[.int .i64 v.p, .int .i64 v.c, .int .i64 v.h, .int .i64 v.s] := (hu 1 28 (by kernel_rfl) rfl).trans (hp 1 (by kernel_rfl) _ rfl)
          have e34 : A.tmps[34]?.getD undef = vals 7 := hu 7 34 (by kernel_rfl) rfl
          have e35 : A.tmps[35]?.getD undef = .int .i64 (d : Int) := (hu 8 35 (by kernel_rfl) rfl).trans (hp 8 (by kernel_rfl) _ rfl)
          clear hu h0 hp
          refine (F.f7 (hdl 7 (by kernel_rfl)) (fun h => hno (hcl 12 9 (by kernel_rfl) h))).elim fun A1 q => ?_
          refine q.elim fun c1 q => ?_
          refine q.elim fun A2 q => ?_
          refine q.elim fun c2 q => ?_
          have e34' := e34.trans q.1
          clear e34
          go_simp
          refine (CSV.out w9 A1 A2 c1 c2 q.2.1 q.2.2).mono ?_
          rintro e w6 ⟨rfl, hb6⟩
          exact hK.out _ w6 (Pl.fix rfl) ((F.below (fun h => hno (hcl 12 9 (by kernel_rfl) h)) hb6).skip 9 _ (by decide) (by decide) (by decide) (by decide))
        refine RelFrom.run rfl (fun L vals A w9 hno hdl hcl hu hp h0 F K hK => ?_) ?_
        · have e36 : A.tmps[36]?.getD undef = .int .i64 X := (hu 9 36 (by kernel_rfl) rfl).trans (hp 9 (by kernel_rfl) _ rfl)
          clear hu h0 hp
          have BEL := F.pre (fun h => hno (hcl 12 10 (by kernel_rfl) h))
          have rq := (RV.out.below BEL RV.out.lt).c4
          have q0 := rq.1
          have q1 := rq.2.1
          have q2 := rq.2.2.1
          have q3 := rq.2.2.2
          have pc := PC.out w9 BEL
          have p1 := pc.1
          have p2 := pc.2
          clear rq pc
          go_simp
          exact hK.out _ w9 (Pl.fix rfl) (F.skip 10 _ (by decide) (by decide) (by decide) (by decide))
        refine RelFrom.run rfl (fun L vals A w9 hno hdl hcl hu hp h0 F K hK => ?_) ?_
        · have e37 : A.tmps[37]?.getD undef = .int .i64 (1000000 - X) := (hu 10 37 (by kernel_rfl) rfl).trans (hp 10 (by kernel_rfl) _ rfl)
          clear hu h0 hp
          go_simp
          exact hK.out _ _ (Pl.any rfl) (by simpa [upd] using F.s11 (fun h => hno (hcl 12 11 (by kernel_rfl) h)))
        refine RelFrom.run rfl (fun L vals A w9 hno hdl hcl hu hp h0 F K hK => ?_) ?_
        · have e27 : A.tmps[27]?.getD undef = u11 := (hu 0 27 (by kernel_rfl) rfl).trans (hp 0 (by kernel_rfl) _ rfl)
          have e38 : A.tmps[38]?.getD undef = vals 11 := hu 11 38 (by kernel_rfl) rfl
          clear hu h0 hp
          have BEL := F.pre hno
          refine (F.f11 (hdl 11 (by kernel_rfl)) hno).elim fun g16 q16 => ?_
          have o9 := (OG.out.below BEL (Nat.le_refl _)).more BEL.size
          refine wp_one _ _ _ rfl lo w9.heap.size 2 i0 (.int .i64 0) 1 8 Try.underlying24 hi0 hz0 hz1 hz2 rfl (by decide) enI_len u11 Y (1000000 - X) (one_I _) (ev e27) o9 g16 1 2 ((ev e38).trans q16.1) q16.2 (by rw [HZL2.out]; unfold maxLen; omega) (by rw [HZL2.out]; omega) (by have := BEL.size; omega) ?_
          intro g14 c14 w12 ho12 hg12 hat12 hlt12
          exact hK.out _ w12 (Pl.any rfl) (by simpa [upd] using F.s12 (fun h => hno (hcl 13 12 (by kernel_rfl) h)) ho12 (below_grown BEL hg12))
        refine RelFrom.run rfl (fun L vals A w9 hno hdl hcl hu hp h0 F K hK => ?_) ?_
        · have e39 : A.tmps[39]?.getD undef = vals 12 := hu 12 39 (by kernel_rfl) rfl
          clear hu h0 hp
          go_simp
          exact hK.out _ w9 (Pl.any rfl) (by simpa [upd] using F.s13)
        exact RelFrom.nil (by decide)
      case gfin_2 =>
        intro vals w9 hp F
        simp only [Fr, Act.put, List.setIfInBounds_toArray, List.set_cons_zero, List.set_cons_succ, Nat.reduceAdd]
        obtain ⟨g17, k17, c17, e12, ho, hg⟩ := F.f12 trivial
        have e13 := F.f13 trivial
        rw [e12] at e13 ho
        clear F hp e12
        rw [e13]
        have hu := OG.out.block
        have K9 : Ps w w9 v (.slice (some ⟨g17, 0, none⟩) k17 c17) (zs.take (k + 1)) (.slice (some ⟨b7, o7, none⟩) M ca) ps lo := by
          rw [HZ.out]
          exact ⟨BE.out.grown hg BE.out.size (fun g h => by have := (hu g h).1; omega), RV.out.grown hg (fun g h => by have := (hu g h).1; omega), hge, Nat.le_trans hlw hg.size, ho, (relSl RelP 3 enP).keep PLK.out (Still.grown hg (fun g h hn => by have := (hu g h).1; omega))⟩
        clear ho hg e13 hu OG PLK BE RV CSW CSV PC
        go_wp2_with fail
        go_roundw
        case rel => exact ⟨k + 1, by omega, by go_num, K9⟩
        case measure => simp [intOf]; omega
    · obtain rfl : k = M := by omega
      have hnk : ¬ ((k : Int) < (k : Int)) := by omega
      have og := K.og
      rw [List.take_of_length_le (by rw [HZL.out]; exact Nat.le_refl _)] at og
      have bel := K.bel
      have hge := K.ge
      clear K
      go_wp2_with fail
      go_ret
      exact ⟨_, rfl, og.less (by omega), bel⟩

/-- A roll's values are reckoned. -/
structure VlF (w1 : World) (zs : List Int) (p14 : Prop) (v14 : Value) (w' : World) : Prop where
  bel : Below w1.heap.size w1 w'
  f14 : p14 → OwnS w' w1.heap.size w'.heap.size 2 1 enI v14 zs
theorem VlF.skip {w1 w' : World} {zs : List Int} {L : Nat → Prop} {vals : Nat → Value} (F : VlF w1 zs (L 14) (vals 14) w') (k : Nat) (x : Value) (h14 : 14 ≠ k) : VlF w1 zs (14 = k ∨ L 14) (upd vals k x 14) w' := by
  rw [or_ne h14, upd_ne h14]; exact F
theorem VlF.below {w1 w' w'' : World} {zs : List Int} {p14 : Prop} {v14 : Value} (F : VlF w1 zs p14 v14 w') (hb : Below w'.heap.size w' w'') : VlF w1 zs p14 v14 w'' :=
  ⟨F.bel.trans (hb.mono F.bel.size), fun h => ((F.f14 h).below hb (Nat.le_refl _)).more hb.size⟩
theorem VlF.s14 {w1 w' w'' : World} {zs : List Int} {p14 : Prop} {v14 v' : Value} (F : VlF w1 zs p14 v14 w') (hb : Below w'.heap.size w' w'') (ho : OwnS w'' w'.heap.size w''.heap.size 2 1 enI v' zs) : VlF w1 zs True v' w'' :=
  ⟨F.bel.trans (hb.mono F.bel.size), fun _ => ho.less F.bel.size⟩

set_option maxHeartbeats 2000000 in
theorem ss_zero : SVs 0 := by
  intro v b hb Ao At co ct w ho ht hA hT
  obtain ⟨P, hP⟩ : ∃ P : Nat, v.p = (P : Int) := ⟨v.p.toNat, by have := hb.v1; omega⟩
  obtain ⟨n, hn⟩ : ∃ n, P + 1 = n := ⟨_, rfl⟩
  have eln : b.1.length = n := by have := hb.own.len; omega
  have emn : b.2.length = n := by have := hb.oth.len; omega
  obtain ⟨X, hX⟩ : ∃ X, valP v 0 b = X := ⟨_, rfl⟩
  have CE := Lib.hid (fun (w9 : World) (h : Below w.heap.size w w9) => Bd13.est_s v b hb Ao At co ct w.heap.size w9 h.size (ho.below h (Nat.le_refl _)) (ht.below h (Nat.le_refl _)))
  rw [show est v b = X from hX, eln, emn] at CE
  rw [hX, eln, emn]
  clear hb ho ht hA hT hX eln emn hn hP
  go_enter Try.func49, Try.ntmps49
  go_upto_region 1 with (fail)
  refine wp_gen (fun W' => Below w.heap.size w W' ∧ RowB W' w.heap.size 32 [.int .i64 v.p, .int .i64 v.c, .int .i64 v.h, .int .i64 v.s] ∧ RowB W' (w.heap.size + 1) 34 [.slice Ao n co, .slice At n ct]) ⟨by go_grown, (RowB.new _ _ _).alloc _, RowB.new' _ _ _ (by simp)⟩ ?_
  rintro w1 ⟨hb1, rv, rb⟩
  obtain ⟨q0, q1, q2, q3⟩ := rv.c4
  obtain ⟨z0, z1⟩ := rb.c2
  have hl1 := rv.lt
  have hl2 := rb.lt
  go_wp2_with fail
  refine (CE.out w1 hb1).mono ?_
  rintro e w2 ⟨rfl, hb2⟩
  have hb1 := hb1.trans (hb2.mono hb1.size)
  go_wp2_with fail
  go_ret
  exact ⟨rfl, hb1⟩

set_option maxHeartbeats 8000000 in
set_option maxRecDepth 100000 in
theorem ss_step (d : Nat) (hd : d ≤ 10) (H : PVs d) : SVs (d + 1) := by
  intro v b hb Ao At co ct w ho ht hA hT
  obtain ⟨P, hP⟩ : ∃ P : Nat, v.p = (P : Int) := ⟨v.p.toNat, by have := hb.v1; omega⟩
  obtain ⟨n, hn⟩ : ∃ n, P + 1 = n := ⟨_, rfl⟩
  have eln : b.1.length = n := by have := hb.own.len; omega
  have emn : b.2.length = n := by have := hb.oth.len; omega
  have hv := hb.v1
  have hvV : okV v = true := okV_iff.2 hv
  obtain ⟨D, hD⟩ : ∃ D, d + 1 = D := ⟨_, rfl⟩
  obtain ⟨S, hS⟩ : ∃ S : Nat, v.s = (S : Int) := ⟨v.s.toNat, by omega⟩
  have hS6 : S ≤ 6 ∧ 1 ≤ S := by omega
  have eS : v.s.toNat = S := by omega
  obtain ⟨ov, hov⟩ : ∃ o, over b = o := ⟨_, rfl⟩
  obtain ⟨X, hX⟩ : ∃ X, valP v (d + 1) b = X := ⟨_, rfl⟩
  have CE := Lib.hid (fun (w9 : World) (h : Below w.heap.size w w9) => Bd13.est_s v b hb Ao At co ct w.heap.size w9 h.size (ho.below h (Nat.le_refl _)) (ht.below h (Nat.le_refl _)))
  have CO := Lib.hid (fun (w9 : World) (h : Below w.heap.size w w9) => Bd2.over_s v b hb Ao At co ct w.heap.size w9 h.size (ho.below h (Nat.le_refl _)) (ht.below h (Nat.le_refl _)) ov hov)
  have CR := Lib.hid (fun (w9 : World) => rolls_s v hvV w9)
  have CB := Lib.hid (fun (w9 : World) => base_s v hvV w9)
  have CP := Lib.hid (fun (w9 : World) (h : Below w.heap.size w w9) (x y : Int) (hr : (x, y) ∈ rollsP S) => H v b hb Ao At co ct x y (by have := rolls_mem hr; simp only at this; omega) (by have := rolls_mem hr; simp only at this; omega) w9 ((ho.below h (Nat.le_refl _)).more h.size) ((ht.below h (Nat.le_refl _)).more h.size) hA hT)
  have HOB := Lib.hid (fun (x y : Int) (hr : (x, y) ∈ rollsP S) => (⟨pls_bd (d := d) hb (x := x) (y := y) (by have := rolls_mem hr; simp only at this; omega) (by have := rolls_mem hr; simp only at this; omega), term_bd (d := d) hb (r := (x, y)) (by have := rolls_mem hr; simp only at this; omega) (by have := rolls_mem hr; simp only at this; omega)⟩ : (((∀ z ∈ plsP v d b x y, 0 ≤ z ∧ z ≤ 1000000) ∧ 0 < (plsP v d b x y).length) ∧ (0 ≤ wtP (x, y) * grt (plsP v d b x y) ∧ wtP (x, y) * grt (plsP v d b x y) ≤ 2000000))))
  have HSB := Lib.hid (sm_bd (d := d) hb)
  have HOVER := Lib.hid (fun (h : ov = true) => val_over (v := v) (d := d) (b := b) (hov.trans h))
  have HSUM := Lib.hid (fun (h : ov = false) (k : Nat) (hk : (rollsP v.s.toNat).length ≤ k) => val_sum (v := v) (d := d) (b := b) (hov.trans h) hk)
  have HSC := Lib.hid (fun (k : Nat) (r : Int × Int) (h : (rollsP v.s.toNat)[k]? = some r) => smP_succ (v := v) (d := d) (b := b) h)
  have hRL : (rollsP S).length ≤ 42 := by have := rolls_len S hS6.1; omega
  rw [hX] at HOVER HSUM
  rw [eS] at CR HSB HSUM HSC
  rw [eln, emn] at CE CO CP
  rw [hX, eln, emn, hD]
  have hDd : IntKind.i64.wrap ((D : Int) - 1) = (d : Int) := by rw [IntWalk.i64_in _ (by omega)]; omega
  have hD0 : ((D : Int) == 0) = false := by simp; omega
  have HS := Lib.hid hS
  clear hb ho ht hA hT hX eln emn hn hP hv hvV hD hov eS hS H
  go_enter Try.func49, Try.ntmps49
  go_upto_region 1 with (fail)
  refine wp_gen (fun W' => Below w.heap.size w W' ∧ RowB W' w.heap.size 32 [.int .i64 v.p, .int .i64 v.c, .int .i64 v.h, .int .i64 v.s] ∧ RowB W' (w.heap.size + 1) 34 [.slice Ao n co, .slice At n ct]) ⟨by go_grown, (RowB.new _ _ _).alloc _, RowB.new' _ _ _ (by simp)⟩ ?_
  rintro w1 ⟨hb1, rv, rb⟩
  obtain ⟨q0, q1, q2, q3⟩ := rv.c4
  obtain ⟨z0, z1⟩ := rb.c2
  have hl1 := rv.lt
  have hl2 := rb.lt
  go_wp2_with fail
  refine (CO.out w1 hb1).mono ?_
  rintro e w2 ⟨rfl, hb2⟩
  have rv := rv.below hb2 rv.lt
  have rb := rb.below hb2 rb.lt
  have hb1 := hb1.trans (hb2.mono hb1.size)
  clear q0 q1 q2 q3 z0 z1 hl1 hl2 hb2 CO
  obtain ⟨q0, q1, q2, q3⟩ := rv.c4
  obtain ⟨z0, z1⟩ := rb.c2
  have hl1 := rv.lt
  have hl2 := rb.lt
  cases ov
  case true =>
    obtain rfl : X = est v b := (HOVER.out rfl)
    clear HSUM HSB HOB CP CR HSC CB
    go_wp2_with fail
    refine (CE.out w2 hb1).mono ?_
    rintro e w3 ⟨rfl, hb3⟩
    have hb1 := hb1.trans (hb3.mono hb1.size)
    go_wp2_with fail
    go_ret
    exact ⟨rfl, hb1⟩
  have HSU2 := Lib.hid (HSUM.out rfl)
  clear CE HOVER HSUM
  go_wp2_with fail
  refine (CR.out w2).mono ?_
  rintro e w3 ⟨lv, rfl, hlo, hb3⟩
  have rv := rv.below hb3 rv.lt
  have rb := rb.below hb3 rb.lt
  have hb1 := hb1.trans (hb3.mono hb1.size)
  obtain ⟨Al, cl, hlv, hrl⟩ := hlo.form enI2_len
  subst hlv
  obtain ⟨N, hN⟩ : ∃ N, (rollsP S).length = N := ⟨_, rfl⟩
  have HN := Lib.hid hN
  rw [hN] at hRL ⊢
  have HRL := Lib.hid hrl
  clear q0 q1 q2 q3 z0 z1 hl1 hl2 hb3 CR hN hlo hrl
  have hl1 := rv.lt
  go_wp2_with fail
  go_loopw [8, 9] (fun s i wr => ∃ k : Nat, k ≤ N ∧ i = .int .i64 (k : Int) ∧ s = .int .i64 (smP v d b k) ∧ Below w3.heap.size w3 wr) (fun _ i _ => N - (intOf i).toNat)
  case atStart => exact ⟨0, Nat.zero_le _, by first | rfl | trivial, by first | rfl | trivial, Below.refl _ _⟩
  case round =>
    obtain ⟨k, hk, rfl, rfl, hbk⟩ := hrel
    clear hl1
    have hbw := hb1.trans (hbk.mono hb1.size)
    have rvk := rv.below hbk rv.lt
    have rbk := rb.below hbk rb.lt
    have hl1 := rvk.lt
    have hl2 := rbk.lt
    have hsb := HSB.out k (by rw [HN.out]; exact hk)
    by_cases hlt : k < N
    · obtain ⟨b5, o5, x, y, rfl, hb5, hxy, c0, c1⟩ := rl2 (HRL.out.below hbk (Nat.le_refl _)) (i := k) (by rw [HN.out]; exact hlt)
      have PC := Lib.hid (fun (w9 : World) (h : Below wr.heap.size wr w9) => (⟨(Below.cell h (p := ⟨b5, o5 + k * 2, none⟩) (Nat.lt_of_lt_of_le hb5 hbk.size)).trans c0, (Below.cell h (p := ⟨b5, o5 + k * 2 + 1, none⟩) (Nat.lt_of_lt_of_le hb5 hbk.size)).trans c1⟩ : w9.cell? ⟨b5, o5 + k * 2, none⟩ = some (.int .i64 x) ∧ w9.cell? ⟨b5, o5 + k * 2 + 1, none⟩ = some (.int .i64 y)))
      have HM := Lib.hid (List.mem_of_getElem? hxy)
      have HSN := Lib.hid (HSC.out k (x, y) hxy)
      obtain ⟨Sk, hSk⟩ : ∃ s, smP v d b k = s := ⟨_, rfl⟩
      rw [hSk] at hsb HSN ⊢
      obtain ⟨⟨hpl, hpl0⟩, htb⟩ := HOB.out x y HM.out
      obtain ⟨zs, hzs⟩ : ∃ z, plsP v d b x y = z := ⟨_, rfl⟩
      have CPx := Lib.hid (fun (w9 : World) (h : Below w.heap.size w w9) => CP.out w9 h x y HM.out)
      have CWx := Lib.hid (fun (w9 : World) => weight_s x y w9)
      rw [hzs] at hpl hpl0 htb CPx HSN
      obtain ⟨W, hW⟩ : ∃ q, wtP (x, y) = q := ⟨_, rfl⟩
      rw [hW] at CWx htb HSN
      obtain ⟨G, hG⟩ : ∃ g, grt zs = g := ⟨_, rfl⟩
      have CG := Lib.hid (fun (w9 : World) (A : Option Addr) (cp B : Nat) (hr : RdS w9 B 1 enI A zs) => great_s A cp B zs w9 hr hpl0)
      rw [hG] at htb HSN CG
      obtain ⟨L, hL⟩ : ∃ l, zs.length = l := ⟨_, rfl⟩
      have HL := Lib.hid hL
      rw [hL] at CG
      obtain ⟨PV, hPV⟩ : ∃ q, W * G = q := ⟨_, rfl⟩
      rw [hPV] at htb HSN
      have hw1 : IntKind.i64.wrap (W * G) = PV := by rw [hPV]; exact IntWalk.i64_in _ (by omega)
      have hw2 : IntKind.i64.wrap (Sk + PV) = Sk + PV := IntWalk.i64_in _ (by omega)
      have hkn : (k : Int) < (N : Int) := by omega
      have hwk : IntKind.i64.wrap ((k : Int) + 1) = (k : Int) + 1 := IntWalk.i64_in _ (by omega)
      have RV := Lib.hid rvk
      have RB := Lib.hid rbk
      have BE := Lib.hid hbw
      have BK := Lib.hid hbk
      clear hxy hSk hzs hW hG hL hPV hpl hpl0 c0 c1 hb5 rvk rbk hbw hbk hl1 hl2
      go_wp2_with fail
      refine region_rel [some 27, some 28, some 29, some 30, some 31, some 32, some 33, some 34, some 35, some 36, some 37, some 38, some 39, some 40, some 41, some 42, some 43, some 44, some 8] 19 (Pl [some (.int .i64 Sk), some (.slice (some ⟨b5, o5, none⟩) N cl), some (.int .i64 (k : Int)), some (.pointer (some ⟨b5, o5 + k * 2, none⟩)), some (.agg #[.int .i64 x, .int .i64 y]), some (.int .i64 W), some (.agg #[.int .i64 v.p, .int .i64 v.c, .int .i64 v.h, .int .i64 v.s]), some (.agg #[.slice Ao n co, .slice At n ct]), some (.slice (some ⟨b5, o5, none⟩) N cl), some (.int .i64 (k : Int)), some (.pointer (some ⟨b5, o5 + k * 2, none⟩)), some (.agg #[.int .i64 x, .int .i64 y]), some (.int .i64 (D : Int)), some (.int .i64 (d : Int)), none, some (.int .i64 G), some (.int .i64 PV), some (.int .i64 (Sk + PV)), some (.int .i64 (Sk + PV))]) (fun L vals w' => VlF wr zs (L 14) (vals 14) w') (by kernel_rfl) (by kernel_rfl) (by kernel_rfl) (by kernel_rfl) (by kernel_rfl) (by kernel_rfl) (by kernel_rfl) ?g0_3 ?gst_3 ?gfin_3
      case g0_3 => exact ⟨(Below.refl _ _).drew, fun h => absurd h (by decide)⟩
      case gst_3 =>
        refine RelFrom.run rfl (fun L vals A w9 hno hdl hcl hu hp h0 F K hK => ?_) ?_
        · have e8 : A.tmps[8]?.getD undef = .int .i64 Sk := h0 8 (fun j hl hj => by obtain rfl := nd_of _ (by kernel_rfl) j 18 8 hj rfl; exact hno (hcl 18 0 (by kernel_rfl) hl))
          clear hu h0 hp
          have rq := (RV.out.below F.bel RV.out.lt).c4
          have q0 := rq.1
          have q1 := rq.2.1
          have q2 := rq.2.2.1
          have q3 := rq.2.2.2
          have rz := (RB.out.below F.bel RB.out.lt).c2
          have z0 := rz.1
          have z1 := rz.2
          have pc := PC.out w9 F.bel
          have c0 := pc.1
          have c1 := pc.2
          clear rq rz pc
          go_simp
          exact hK.out _ w9 (Pl.fix rfl) (F.skip 0 _ (by decide))
        refine RelFrom.run rfl (fun L vals A w9 hno hdl hcl hu hp h0 F K hK => ?_) ?_
        · have e7 : A.tmps[7]?.getD undef = .slice (some ⟨b5, o5, none⟩) N cl := h0 7 (fun j _ hj => absurd (List.mem_of_getElem? hj) (by decide))
          clear hu h0 hp
          have rq := (RV.out.below F.bel RV.out.lt).c4
          have q0 := rq.1
          have q1 := rq.2.1
          have q2 := rq.2.2.1
          have q3 := rq.2.2.2
          have rz := (RB.out.below F.bel RB.out.lt).c2
          have z0 := rz.1
          have z1 := rz.2
          have pc := PC.out w9 F.bel
          have c0 := pc.1
          have c1 := pc.2
          clear rq rz pc
          go_simp
          exact hK.out _ w9 (Pl.fix rfl) (F.skip 1 _ (by decide))
        refine RelFrom.run rfl (fun L vals A w9 hno hdl hcl hu hp h0 F K hK => ?_) ?_
        · have e9 : A.tmps[9]?.getD undef = .int .i64 (k : Int) := h0 9 (fun j _ hj => absurd (List.mem_of_getElem? hj) (by decide))
          clear hu h0 hp
          have rq := (RV.out.below F.bel RV.out.lt).c4
          have q0 := rq.1
          have q1 := rq.2.1
          have q2 := rq.2.2.1
          have q3 := rq.2.2.2
          have rz := (RB.out.below F.bel RB.out.lt).c2
          have z0 := rz.1
          have z1 := rz.2
          have pc := PC.out w9 F.bel
          have c0 := pc.1
          have c1 := pc.2
          clear rq rz pc
          go_simp
          exact hK.out _ w9 (Pl.fix rfl) (F.skip 2 _ (by decide))
        refine RelFrom.run rfl (fun L vals A w9 hno hdl hcl hu hp h0 F K hK => ?_) ?_
        · have e28 : A.tmps[28]?.getD undef = .slice (some ⟨b5, o5, none⟩) N cl := (hu 1 28 (by kernel_rfl) rfl).trans (hp 1 (by kernel_rfl) _ rfl)
          have e29 : A.tmps[29]?.getD undef = .int .i64 (k : Int) := (hu 2 29 (by kernel_rfl) rfl).trans (hp 2 (by kernel_rfl) _ rfl)
          clear hu h0 hp
          have rq := (RV.out.below F.bel RV.out.lt).c4
          have q0 := rq.1
          have q1 := rq.2.1
          have q2 := rq.2.2.1
          have q3 := rq.2.2.2
          have rz := (RB.out.below F.bel RB.out.lt).c2
          have z0 := rz.1
          have z1 := rz.2
          have pc := PC.out w9 F.bel
          have c0 := pc.1
          have c1 := pc.2
          clear rq rz pc
          go_simp
          exact hK.out _ w9 (Pl.fix rfl) (F.skip 3 _ (by decide))
        refine RelFrom.run rfl (fun L vals A w9 hno hdl hcl hu hp h0 F K hK => ?_) ?_
        · have e30 : A.tmps[30]?.getD undef = .pointer (some ⟨b5, o5 + k * 2, none⟩) := (hu 3 30 (by kernel_rfl) rfl).trans (hp 3 (by kernel_rfl) _ rfl)
          clear hu h0 hp
          have rq := (RV.out.below F.bel RV.out.lt).c4
          have q0 := rq.1
          have q1 := rq.2.1
          have q2 := rq.2.2.1
          have q3 := rq.2.2.2
          have rz := (RB.out.below F.bel RB.out.lt).c2
          have z0 := rz.1
          have z1 := rz.2
          have pc := PC.out w9 F.bel
          have c0 := pc.1
          have c1 := pc.2
          clear rq rz pc
          go_simp
          exact hK.out _ w9 (Pl.fix rfl) (F.skip 4 _ (by decide))
        refine RelFrom.run rfl (fun L vals A w9 hno hdl hcl hu hp h0 F K hK => ?_) ?_
        · have e31 : A.tmps[31]?.getD undef = .agg #[.int .i64 x, .int .i64 y] := (hu 4 31 (by kernel_rfl) rfl).trans (hp 4 (by kernel_rfl) _ rfl)
          clear hu h0 hp
          go_simp
          refine (CWx.out w9).mono ?_
          rintro e w6 ⟨rfl, hb6⟩
          exact hK.out _ w6 (Pl.fix rfl) ((F.below hb6).skip 5 _ (by decide))
        refine RelFrom.run rfl (fun L vals A w9 hno hdl hcl hu hp h0 F K hK => ?_) ?_
        · have e3 : A.tmps[3]?.getD undef = .pointer (some ⟨w.heap.size, 0, none⟩) := h0 3 (fun j _ hj => absurd (List.mem_of_getElem? hj) (by decide))
          clear hu h0 hp
          have rq := (RV.out.below F.bel RV.out.lt).c4
          have q0 := rq.1
          have q1 := rq.2.1
          have q2 := rq.2.2.1
          have q3 := rq.2.2.2
          have rz := (RB.out.below F.bel RB.out.lt).c2
          have z0 := rz.1
          have z1 := rz.2
          have pc := PC.out w9 F.bel
          have c0 := pc.1
          have c1 := pc.2
          clear rq rz pc
          go_simp
          exact hK.out _ w9 (Pl.fix rfl) (F.skip 6 _ (by decide))
        refine RelFrom.run rfl (fun L vals A w9 hno hdl hcl hu hp h0 F K hK => ?_) ?_
        · have e4 : A.tmps[4]?.getD undef = .pointer (some ⟨w.heap.size + 1, 0, none⟩) := h0 4 (fun j _ hj => absurd (List.mem_of_getElem? hj) (by decide))
          clear hu h0 hp
          have rq := (RV.out.below F.bel RV.out.lt).c4
          have q0 := rq.1
          have q1 := rq.2.1
          have q2 := rq.2.2.1
          have q3 := rq.2.2.2
          have rz := (RB.out.below F.bel RB.out.lt).c2
          have z0 := rz.1
          have z1 := rz.2
          have pc := PC.out w9 F.bel
          have c0 := pc.1
          have c1 := pc.2
          clear rq rz pc
          go_simp
          exact hK.out _ w9 (Pl.fix rfl) (F.skip 7 _ (by decide))
        refine RelFrom.run rfl (fun L vals A w9 hno hdl hcl hu hp h0 F K hK => ?_) ?_
        · have e7 : A.tmps[7]?.getD undef = .slice (some ⟨b5, o5, none⟩) N cl := h0 7 (fun j _ hj => absurd (List.mem_of_getElem? hj) (by decide))
          clear hu h0 hp
          have rq := (RV.out.below F.bel RV.out.lt).c4
          have q0 := rq.1
          have q1 := rq.2.1
          have q2 := rq.2.2.1
          have q3 := rq.2.2.2
          have rz := (RB.out.below F.bel RB.out.lt).c2
          have z0 := rz.1
          have z1 := rz.2
          have pc := PC.out w9 F.bel
          have c0 := pc.1
          have c1 := pc.2
          clear rq rz pc
          go_simp
          exact hK.out _ w9 (Pl.fix rfl) (F.skip 8 _ (by decide))
        refine RelFrom.run rfl (fun L vals A w9 hno hdl hcl hu hp h0 F K hK => ?_) ?_
        · have e9 : A.tmps[9]?.getD undef = .int .i64 (k : Int) := h0 9 (fun j _ hj => absurd (List.mem_of_getElem? hj) (by decide))
          clear hu h0 hp
          have rq := (RV.out.below F.bel RV.out.lt).c4
          have q0 := rq.1
          have q1 := rq.2.1
          have q2 := rq.2.2.1
          have q3 := rq.2.2.2
          have rz := (RB.out.below F.bel RB.out.lt).c2
          have z0 := rz.1
          have z1 := rz.2
          have pc := PC.out w9 F.bel
          have c0 := pc.1
          have c1 := pc.2
          clear rq rz pc
          go_simp
          exact hK.out _ w9 (Pl.fix rfl) (F.skip 9 _ (by decide))
        refine RelFrom.run rfl (fun L vals A w9 hno hdl hcl hu hp h0 F K hK => ?_) ?_
        · have e35 : A.tmps[35]?.getD undef = .slice (some ⟨b5, o5, none⟩) N cl := (hu 8 35 (by kernel_rfl) rfl).trans (hp 8 (by kernel_rfl) _ rfl)
          have e36 : A.tmps[36]?.getD undef = .int .i64 (k : Int) := (hu 9 36 (by kernel_rfl) rfl).trans (hp 9 (by kernel_rfl) _ rfl)
          clear hu h0 hp
          have rq := (RV.out.below F.bel RV.out.lt).c4
          have q0 := rq.1
          have q1 := rq.2.1
          have q2 := rq.2.2.1
          have q3 := rq.2.2.2
          have rz := (RB.out.below F.bel RB.out.lt).c2
          have z0 := rz.1
          have z1 := rz.2
          have pc := PC.out w9 F.bel
          have c0 := pc.1
          have c1 := pc.2
          clear rq rz pc
          go_simp
          exact hK.out _ w9 (Pl.fix rfl) (F.skip 10 _ (by decide))
        refine RelFrom.run rfl (fun L vals A w9 hno hdl hcl hu hp h0 F K hK => ?_) ?_
        · have e37 : A.tmps[37]?.getD undef = .pointer (some ⟨b5, o5 + k * 2, none⟩) := (hu 10 37 (by kernel_rfl) rfl).trans (hp 10 (by kernel_rfl) _ rfl)
          clear hu h0 hp
          have rq := (RV.out.below F.bel RV.out.lt).c4
          have q0 := rq.1
          have q1 := rq.2.1
          have q2 := rq.2.2.1
          have q3 := rq.2.2.2
          have rz := (RB.out.below F.bel RB.out.lt).c2
          have z0 := rz.1
          have z1 := rz.2
          have pc := PC.out w9 F.bel
          have c0 := pc.1
          have c1 := pc.2
          clear rq rz pc
          go_simp
          exact hK.out _ w9 (Pl.fix rfl) (F.skip 11 _ (by decide))
        refine RelFrom.run rfl (fun L vals A w9 hno hdl hcl hu hp h0 F K hK => ?_) ?_
        · have e2 : A.tmps[2]?.getD undef = .int .i64 (D : Int) := h0 2 (fun j _ hj => absurd (List.mem_of_getElem? hj) (by decide))
          clear hu h0 hp
          have rq := (RV.out.below F.bel RV.out.lt).c4
          have q0 := rq.1
          have q1 := rq.2.1
          have q2 := rq.2.2.1
          have q3 := rq.2.2.2
          have rz := (RB.out.below F.bel RB.out.lt).c2
          have z0 := rz.1
          have z1 := rz.2
          have pc := PC.out w9 F.bel
          have c0 := pc.1
          have c1 := pc.2
          clear rq rz pc
          go_simp
          exact hK.out _ w9 (Pl.fix rfl) (F.skip 12 _ (by decide))
        refine RelFrom.run rfl (fun L vals A w9 hno hdl hcl hu hp h0 F K hK => ?_) ?_
        · have e39 : A.tmps[39]?.getD undef = .int .i64 (D : Int) := (hu 12 39 (by kernel_rfl) rfl).trans (hp 12 (by kernel_rfl) _ rfl)
          clear hu h0 hp
          have rq := (RV.out.below F.bel RV.out.lt).c4
          have q0 := rq.1
          have q1 := rq.2.1
          have q2 := rq.2.2.1
          have q3 := rq.2.2.2
          have rz := (RB.out.below F.bel RB.out.lt).c2
          have z0 := rz.1
          have z1 := rz.2
          have pc := PC.out w9 F.bel
          have c0 := pc.1
          have c1 := pc.2
          clear rq rz pc
          go_simp
          exact hK.out _ w9 (Pl.fix rfl) (F.skip 13 _ (by decide))
        refine RelFrom.run rfl (fun L vals A w9 hno hdl hcl hu hp h0 F K hK => ?_) ?_
        · have e33 : A.tmps[33]?.getD undef = .agg #[.int .i64 v.p, .int .i64 v.c, .int .i64 v.h, .int .i64 v.s] := (hu 6 33 (by kernel_rfl) rfl).trans (hp 6 (by kernel_rfl) _ rfl)
          have e34 : A.tmps[34]?.getD undef = .agg #[.slice Ao n co, .slice At n ct] := (hu 7 34 (by kernel_rfl) rfl).trans (hp 7 (by kernel_rfl) _ rfl)
          have e38 : A.tmps[38]?.getD undef = .agg #[.int .i64 x, .int .i64 y] := (hu 11 38 (by kernel_rfl) rfl).trans (hp 11 (by kernel_rfl) _ rfl)
          have e40 : A.tmps[40]?.getD undef = .int .i64 (d : Int) := (hu 13 40 (by kernel_rfl) rfl).trans (hp 13 (by kernel_rfl) _ rfl)
          clear hu h0 hp
          have hbx := BE.out.trans (F.bel.mono BE.out.size)
          go_simp
          refine (CPx.out w9 hbx).mono ?_
          rintro e w6 ⟨vv, rfl, h3, hb6⟩
          exact hK.out _ w6 (Pl.any rfl) (by simpa [upd] using F.s14 hb6 h3)
        refine RelFrom.run rfl (fun L vals A w9 hno hdl hcl hu hp h0 F K hK => ?_) ?_
        · have e41 : A.tmps[41]?.getD undef = vals 14 := hu 14 41 (by kernel_rfl) rfl
          clear hu h0 hp
          have o14 := F.f14 (hdl 14 (by kernel_rfl))
          refine (o14.form enI_len).elim fun A14 q => ?_
          refine q.elim fun c14 q => ?_
          have h14 := q.1
          rw [HL.out] at h14
          have e41' := e41.trans h14
          clear e41 h14
          go_simp
          refine (CG.out w9 A14 c14 _ q.2).mono ?_
          rintro e w6 ⟨rfl, rfl⟩
          exact hK.out _ w9 (Pl.fix rfl) (F.skip 15 _ (by decide))
        refine RelFrom.run rfl (fun L vals A w9 hno hdl hcl hu hp h0 F K hK => ?_) ?_
        · have e32 : A.tmps[32]?.getD undef = .int .i64 W := (hu 5 32 (by kernel_rfl) rfl).trans (hp 5 (by kernel_rfl) _ rfl)
          have e42 : A.tmps[42]?.getD undef = .int .i64 G := (hu 15 42 (by kernel_rfl) rfl).trans (hp 15 (by kernel_rfl) _ rfl)
          clear hu h0 hp
          have rq := (RV.out.below F.bel RV.out.lt).c4
          have q0 := rq.1
          have q1 := rq.2.1
          have q2 := rq.2.2.1
          have q3 := rq.2.2.2
          have rz := (RB.out.below F.bel RB.out.lt).c2
          have z0 := rz.1
          have z1 := rz.2
          have pc := PC.out w9 F.bel
          have c0 := pc.1
          have c1 := pc.2
          clear rq rz pc
          go_simp
          exact hK.out _ w9 (Pl.fix rfl) (F.skip 16 _ (by decide))
        refine RelFrom.run rfl (fun L vals A w9 hno hdl hcl hu hp h0 F K hK => ?_) ?_
        · have e27 : A.tmps[27]?.getD undef = .int .i64 Sk := (hu 0 27 (by kernel_rfl) rfl).trans (hp 0 (by kernel_rfl) _ rfl)
          have e43 : A.tmps[43]?.getD undef = .int .i64 PV := (hu 16 43 (by kernel_rfl) rfl).trans (hp 16 (by kernel_rfl) _ rfl)
          clear hu h0 hp
          have rq := (RV.out.below F.bel RV.out.lt).c4
          have q0 := rq.1
          have q1 := rq.2.1
          have q2 := rq.2.2.1
          have q3 := rq.2.2.2
          have rz := (RB.out.below F.bel RB.out.lt).c2
          have z0 := rz.1
          have z1 := rz.2
          have pc := PC.out w9 F.bel
          have c0 := pc.1
          have c1 := pc.2
          clear rq rz pc
          go_simp
          exact hK.out _ w9 (Pl.fix rfl) (F.skip 17 _ (by decide))
        refine RelFrom.run rfl (fun L vals A w9 hno hdl hcl hu hp h0 F K hK => ?_) ?_
        · have e44 : A.tmps[44]?.getD undef = .int .i64 (Sk + PV) := (hu 17 44 (by kernel_rfl) rfl).trans (hp 17 (by kernel_rfl) _ rfl)
          clear hu h0 hp
          have rq := (RV.out.below F.bel RV.out.lt).c4
          have q0 := rq.1
          have q1 := rq.2.1
          have q2 := rq.2.2.1
          have q3 := rq.2.2.2
          have rz := (RB.out.below F.bel RB.out.lt).c2
          have z0 := rz.1
          have z1 := rz.2
          have pc := PC.out w9 F.bel
          have c0 := pc.1
          have c1 := pc.2
          clear rq rz pc
          go_simp
          exact hK.out _ w9 (Pl.fix rfl) (F.skip 18 _ (by decide))
        exact RelFrom.nil (by decide)
      case gfin_3 =>
        intro vals w9 hp F
        simp only [Fr, Act.put, List.setIfInBounds_toArray, List.set_cons_zero, List.set_cons_succ, Nat.reduceAdd]
        have h18 : vals 18 = .int .i64 (Sk + PV) := hp 18 (by decide) _ rfl
        have hb9 := BK.out.trans (F.bel.mono BK.out.size)
        rw [h18]
        clear F hp h18 RV RB BE BK PC CPx CWx CG
        go_wp2_with fail
        go_roundw
        case rel => exact ⟨k + 1, by omega, by go_num, by rw [HSN.out], hb9⟩
        case measure => simp [intOf]; omega
    · obtain rfl : k = N := by omega
      have hnk : ¬ ((k : Int) < (k : Int)) := by omega
      have hX := HSU2.out k (by rw [HN.out]; exact Nat.le_refl _)
      rw [HS.out] at hX
      obtain ⟨Q, hQ⟩ : ∃ q, (S : Int) * (S : Int) = q := ⟨_, rfl⟩
      have hQ36 : 1 ≤ Q ∧ Q ≤ 36 := by
        rw [← hQ]
        have : S = 1 ∨ S = 2 ∨ S = 3 ∨ S = 4 ∨ S = 5 ∨ S = 6 := by omega
        rcases this with rfl | rfl | rfl | rfl | rfl | rfl <;> omega
      obtain ⟨T, hT⟩ : ∃ t, smP v d b k = t := ⟨_, rfl⟩
      rw [hT] at hX hsb ⊢
      rw [hQ] at hX
      rw [HS.out, hQ] at CB
      have hQ0 : ¬ Q = 0 := by omega
      have hTd : Int.tdiv T Q = X := by rw [hX, Int.tdiv_eq_ediv_of_nonneg hsb.1]
      have hX01 : 0 ≤ X ∧ X ≤ 100000000 := by
        rw [hX]
        exact ⟨Int.ediv_nonneg hsb.1 (by omega), Int.ediv_le_of_le_mul (by omega) (by have : (100000000 : Int) * 1 ≤ 100000000 * Q := Int.mul_le_mul_of_nonneg_left hQ36.1 (by omega); omega)⟩
      have hw2 : IntKind.i64.wrap X = X := IntWalk.i64_in _ (by omega)
      obtain ⟨q0, q1, q2, q3⟩ := rvk.c4
      rw [HS.out] at q3
      clear hX hT hQ HSB HOB CP HSU2 HSC hQ36
      go_wp2_with fail
      refine (CB.out wr).mono ?_
      rintro e w9 ⟨rfl, hb9⟩
      have hbw := hbw.trans (hb9.mono hbw.size)
      go_wp2_with fail
      go_ret
      exact ⟨rfl, hbw⟩
theorem vals_s : ∀ d, d ≤ 5 → SVs d ∧ PVs d := by
  intro d
  induction d with
  | zero => intro _; exact ⟨ss_zero, ps_step 0 (by omega) ss_zero⟩
  | succ d ih => intro h; have := ss_step d (by omega) (ih (by omega)).2; exact ⟨this, ps_step (d + 1) (by omega) this⟩
end Go.Proofs.Ytfgkkmhafdbicaa.Bd27
