/-
  The walk of the law FnExactLossOf. Conditions: each theorem's own.
-/
import Derived.Test.YtfgkkmhafdbicaaLuckLaw
import Derived.Test.YtfgkkmhafdbicaaBd32
set_option linter.unusedVariables false
set_option linter.unusedSimpArgs false
namespace Go.Proofs.Ytfgkkmhafdbicaa.LossLaw
open Go.ChangeShapes Go.WideShapes Go.ChangeAt Go.RowKit Base Ints Own Clone RelG PlP Bd1 Bd6 RegInv RegF RegG Bd25 Bd28 Bd29 Bd32 LuckLaw

/-- The boxes of the law's arguments. -/
structure L4 (w wr : World) (v : Vr) (bs : List Value) (x y : Int) (as_ : List Value) : Prop where
  bel : Below w.heap.size w wr
  rv : RowB wr w.heap.size 23 [.int .i64 v.p, .int .i64 v.c, .int .i64 v.h, .int .i64 v.s]
  rb : RowB wr (w.heap.size + 1) 26 bs
  rr : RowB wr (w.heap.size + 2) 28 [.int .i64 x, .int .i64 y]
  ra : RowB wr (w.heap.size + 3) 26 as_
theorem L4.below {w wr w' : World} {v : Vr} {bs as_ : List Value} {x y : Int} (h : L4 w wr v bs x y as_) (hb : Below wr.heap.size wr w') : L4 w w' v bs x y as_ :=
  ⟨h.bel.trans (hb.mono h.bel.size), h.rv.below hb h.rv.lt, h.rb.below hb h.rb.lt, h.rr.below hb h.rr.lt, h.ra.below hb h.ra.lt⟩

set_option maxHeartbeats 8000000 in
set_option maxRecDepth 100000 in
theorem walk (p c h s : Int) (A1 : Option Addr) (c1 : Nat) (l : List Int) (A2 : Option Addr) (c2 : Nat) (m : List Int) (x y : Int) (A3 : Option Addr) (c3 : Nat) (l3 : List Int) (A4 : Option Addr) (c4 : Nat) (l4 : List Int) (d : Int) (w : World)
    (_ : (Lit.int .i64 p).wf = true) (_ : (Lit.int .i64 c).wf = true) (_ : (Lit.int .i64 h).wf = true) (_ : (Lit.int .i64 s).wf = true) (r1 : RdS w w.heap.size 1 (fun x : Int => [Value.int .i64 x]) A1 l) (_ : ∀ x ∈ l, (Lit.int .i64 x).wf = true) (r2 : RdS w w.heap.size 1 (fun x : Int => [Value.int .i64 x]) A2 m) (_ : ∀ x ∈ m, (Lit.int .i64 x).wf = true) (_ : (Lit.int .i64 x).wf = true) (_ : (Lit.int .i64 y).wf = true)
    (r3 : RdS w w.heap.size 1 (fun x : Int => [Value.int .i64 x]) A3 l3) (_ : ∀ x ∈ l3, (Lit.int .i64 x).wf = true) (r4 : RdS w w.heap.size 1 (fun x : Int => [Value.int .i64 x]) A4 l4) (_ : ∀ x ∈ l4, (Lit.int .i64 x).wf = true) (_ : (Lit.int .i64 d).wf = true) :
    Calls Try.prog 4 #[.agg #[.int .i64 p, .int .i64 c, .int .i64 h, .int .i64 s], .agg #[.slice A1 l.length c1, .slice A2 m.length c2], .agg #[.int .i64 x, .int .i64 y], .agg #[.slice A3 l3.length c3, .slice A4 l4.length c4], .int .i64 d] w fun e w' => e = .returned (.bool true) ∧ Below w.heap.size w w' := by
  obtain ⟨v, hv⟩ : ∃ v : Vr, v = ⟨p, c, h, s⟩ := ⟨_, rfl⟩
  obtain ⟨rfl, rfl, rfl, rfl⟩ : p = v.p ∧ c = v.c ∧ h = v.h ∧ s = v.s := by rw [hv]; exact ⟨rfl, rfl, rfl, rfl⟩
  have hm1 := r1.1
  have hm2 := r2.1
  have hm3 := r3.1
  have hm4 := r4.1
  obtain ⟨n1, hn1⟩ : ∃ n, l.length = n := ⟨_, rfl⟩
  obtain ⟨n2, hn2⟩ : ∃ n, m.length = n := ⟨_, rfl⟩
  obtain ⟨n3, hn3⟩ : ∃ n, l3.length = n := ⟨_, rfl⟩
  obtain ⟨n4, hn4⟩ : ∃ n, l4.length = n := ⟨_, rfl⟩
  have HN1 := Lib.hid hn1
  have HN2 := Lib.hid hn2
  have HN3 := Lib.hid hn3
  have HN4 := Lib.hid hn4
  have CZ := Lib.hid (fun (w9 : World) => szB A1 A2 n1 n2 c1 c2 1048576 w9 (by rw [← hn1]; exact hm1) (by rw [← hn2]; exact hm2) (by omega) (by omega))
  have CZ2 := Lib.hid (fun (left : Int) (h0 : 0 ≤ left) (h1 : left ≤ 1048576) (w9 : World) => szB A3 A4 n3 n4 c3 c4 left w9 (by rw [← hn3]; exact hm3) (by rw [← hn4]; exact hm4) h0 h1)
  have CB := Lib.hid (fun (hs : n1 ≤ 1048576 ∧ n2 ≤ 1048576) (w9 : World) (h : Below w.heap.size w w9) => toB l m A1 A2 c1 c2 w.heap.size w9 h.size (r1.below h (Nat.le_refl _)) (r2.below h (Nat.le_refl _)) (by omega) (by omega))
  have CD := Lib.hid (fun (hs : n3 ≤ 1048576 ∧ n4 ≤ 1048576) (w9 : World) (h : Below w.heap.size w w9) => toB l3 l4 A3 A4 c3 c4 w.heap.size w9 h.size (r3.below h (Nat.le_refl _)) (r4.below h (Nat.le_refl _)) (by omega) (by omega))
  have CS := Lib.hid (fun (w9 : World) (B1 B2 : Option Addr) (d1 d2 : Nat) (k1 : OwnV 2 1 enI w9 All (.slice B1 n1 d1) l) (k2 : OwnV 2 1 enI w9 All (.slice B2 n2 d2) m) (B3 B4 : Option Addr) (d3 d4 : Nat) (k3 : OwnV 2 1 enI w9 All (.slice B3 n3 d3) l3) (k4 : OwnV 2 1 enI w9 All (.slice B4 n4 d4) l4) => lossX_s v (l, m) B1 B2 d1 d2 x y (l3, l4) B3 B4 d3 d4 d w9 (Bd25.OwnV.rd_ k1) (Bd25.OwnV.rd_ k2) (Bd25.OwnV.none0 k1) (Bd25.OwnV.none0 k2) (Bd25.OwnV.rd_ k3) (Bd25.OwnV.rd_ k4))
  have CI := Lib.hid (fun (w9 : World) (B1 B2 : Option Addr) (d1 d2 : Nat) (k1 : OwnV 2 1 enI w9 All (.slice B1 n1 d1) l) (k2 : OwnV 2 1 enI w9 All (.slice B2 n2 d2) m) (B3 B4 : Option Addr) (d3 d4 : Nat) (k3 : OwnV 2 1 enI w9 All (.slice B3 n3 d3) l3) (k4 : OwnV 2 1 enI w9 All (.slice B4 n4 d4) l4) => lossX_i v (l, m) B1 B2 d1 d2 x y (l3, l4) B3 B4 d3 d4 d w9 (Bd25.OwnV.rd_ k1) (Bd25.OwnV.rd_ k2) (Bd25.OwnV.none0 k1) (Bd25.OwnV.none0 k2) (Bd25.OwnV.rd_ k3) (Bd25.OwnV.rd_ k4))
  have CE := Lib.hid (fun (w9 : World) (B1 B2 B3 B4 : Option Addr) (d1 d2 d3 d4 : Nat) (k1 : OwnV 2 1 enI w9 All (.slice B1 n1 d1) l) (k2 : OwnV 2 1 enI w9 All (.slice B2 n2 d2) m) (k3 : OwnV 2 1 enI w9 All (.slice B3 n1 d3) l) (k4 : OwnV 2 1 enI w9 All (.slice B4 n2 d4) m) => eqB l m n1 n2 B1 B2 B3 B4 d1 d2 d3 d4 w9 hn1 hn2 (Bd25.OwnV.rd_ k1) (Bd25.OwnV.rd_ k2) (Bd25.OwnV.rd_ k3) (Bd25.OwnV.rd_ k4))
  have CG := Lib.hid (fun (w9 : World) (B1 B2 B3 B4 : Option Addr) (d1 d2 d3 d4 : Nat) (k1 : OwnV 2 1 enI w9 All (.slice B1 n3 d1) l3) (k2 : OwnV 2 1 enI w9 All (.slice B2 n4 d2) l4) (k3 : OwnV 2 1 enI w9 All (.slice B3 n3 d3) l3) (k4 : OwnV 2 1 enI w9 All (.slice B4 n4 d4) l4) => eqB l3 l4 n3 n4 B1 B2 B3 B4 d1 d2 d3 d4 w9 hn3 hn4 (Bd25.OwnV.rd_ k1) (Bd25.OwnV.rd_ k2) (Bd25.OwnV.rd_ k3) (Bd25.OwnV.rd_ k4))
  obtain ⟨Rz, hRz⟩ : ∃ r, lossR v (l, m) x y (l3, l4) d = r := ⟨_, rfl⟩
  rw [hRz] at CS CI
  obtain ⟨g1, g2⟩ := Rz
  simp only [hn1, hn2, hn3, hn4] at CS CI CB CD
  rw [hn1, hn2, hn3, hn4]
  clear hv hRz r1 r2 r3 r4 hm1 hm2 hm3 hm4 hn1 hn2 hn3 hn4
  go_enter Try.func4, Try.ntmps4
  go_upto_region 1 with (fail)
  refine wp_gen (fun W' => L4 w W' v [.slice A1 n1 c1, .slice A2 n2 c2] x y [.slice A3 n3 c3, .slice A4 n4 c4]) ⟨by go_grown, (((RowB.new _ _ _).alloc _).alloc _).alloc _, RowB.alloc (RowB.alloc (RowB.new' _ _ _ (by simp)) _) _, RowB.alloc (RowB.new' _ _ _ (by simp)) _, RowB.new' _ _ _ (by simp)⟩ ?_
  intro w1 K
  obtain ⟨z0, z1⟩ := K.rb.c2
  have hl2 := K.rb.lt
  go_wp2_with fail
  refine (CZ.out w1).mono ?_
  rintro e w2 ⟨⟨rz, rfl, hrz⟩, hb2⟩
  have K := K.below hb2
  clear z0 z1 hl2 hb2 CZ
  rcases hrz with hrz | ⟨hrz, hrz2⟩
  · go_wp2_with fail
    go_ret
    exact ⟨rfl, K.bel⟩
  have hrz' : ¬ rz < 0 := by omega
  have hsz : n1 ≤ 1048576 ∧ n2 ≤ 1048576 := by omega
  have CB := Lib.hid (CB.out hsz)
  have CZ2 := Lib.hid (CZ2.out rz (by omega) (by omega))
  have hrz9 : rz ≤ 1048576 := by omega
  clear hrz2 hsz
  obtain ⟨z0, z1⟩ := K.ra.c2
  have hl2 := K.ra.lt
  go_wp2_with fail
  refine (CZ2.out w2).mono ?_
  rintro e w3 ⟨⟨ry, rfl, hry⟩, hb3⟩
  have K := K.below hb3
  clear z0 z1 hl2 hb3 CZ2
  rcases hry with hry | ⟨hry, hry2⟩
  · go_wp2_with fail
    go_ret
    exact ⟨rfl, K.bel⟩
  have hry' : ¬ ry < 0 := by omega
  have hsy : n3 ≤ 1048576 ∧ n4 ≤ 1048576 := by omega
  have CD := Lib.hid (CD.out hsy)
  have HK := Lib.hid K
  clear hrz hry hry2 hsy K hrz9
  go_wp2_with fail
  refine region_rel [some 29, some 30, some 31, some 32, some 33, some 34, some 35, some 36, some 37, some 38, some 28, some 39, some 40, some 12, some 13] 15 (Pl [some (.agg #[.int .i64 v.p, .int .i64 v.c, .int .i64 v.h, .int .i64 v.s]), some (.agg #[.int .i64 v.p, .int .i64 v.c, .int .i64 v.h, .int .i64 v.s]), some (.agg #[.slice A1 n1 c1, .slice A2 n2 c2]), none, some (.agg #[.int .i64 x, .int .i64 y]), some (.agg #[.int .i64 x, .int .i64 y]), some (.agg #[.slice A3 n3 c3, .slice A4 n4 c4]), none, some (.int .i64 d), some (.tuple #[.int .i64 g1, .int .i64 g2]), some (.tuple #[.int .i64 g1, .int .i64 g2]), some (.int .i64 g1), some (.int .i64 g2), some (.int .i64 g1), some (.int .i64 g2)]) (fun L vals w' => LwF w3 l m n1 n2 (L 3) (vals 3) w' ∧ LwF w3 l3 l4 n3 n4 (L 7) (vals 7) w') (by kernel_rfl) (by kernel_rfl) (by kernel_rfl) (by kernel_rfl) (by kernel_rfl) (by kernel_rfl) (by kernel_rfl) ?g0_1 ?gst_1 ?gfin_1
  case g0_1 => exact ⟨⟨(Below.refl _ _).drew, fun h => absurd h (by decide)⟩, ⟨(Below.refl _ _).drew, fun h => absurd h (by decide)⟩⟩
  case gst_1 =>
    refine RelFrom.run rfl (fun L vals A w9 hno hdl hcl hu hp h0 F K hK => ?_) ?_
    · have e5 : A.tmps[5]?.getD undef = .pointer (some ⟨w.heap.size, 0, none⟩) := h0 5 (fun j _ hj => absurd (List.mem_of_getElem? hj) (by decide))
      clear hu h0 hp
      have KK := HK.out.below F.1.bel
      have rq := KK.rv.c4
      have q0 := rq.1
      have q1 := rq.2.1
      have q2 := rq.2.2.1
      have q3 := rq.2.2.2
      have rz_ := KK.rb.c2
      have z0 := rz_.1
      have z1 := rz_.2
      have rr := KK.rr.c2
      have r0 := rr.1
      have r1 := rr.2
      have ra_ := KK.ra.c2
      have a0 := ra_.1
      have a1 := ra_.2
      clear KK rq rz_ rr ra_
      go_simp
      exact hK.out _ w9 (Pl.fix rfl) (⟨F.1.skip 0 _ (by decide), F.2.skip 0 _ (by decide)⟩)
    refine RelFrom.run rfl (fun L vals A w9 hno hdl hcl hu hp h0 F K hK => ?_) ?_
    · have e29 : A.tmps[29]?.getD undef = .agg #[.int .i64 v.p, .int .i64 v.c, .int .i64 v.h, .int .i64 v.s] := (hu 0 29 (by kernel_rfl) rfl).trans (hp 0 (by kernel_rfl) _ rfl)
      clear hu h0 hp
      have KK := HK.out.below F.1.bel
      have rq := KK.rv.c4
      have q0 := rq.1
      have q1 := rq.2.1
      have q2 := rq.2.2.1
      have q3 := rq.2.2.2
      have rz_ := KK.rb.c2
      have z0 := rz_.1
      have z1 := rz_.2
      have rr := KK.rr.c2
      have r0 := rr.1
      have r1 := rr.2
      have ra_ := KK.ra.c2
      have a0 := ra_.1
      have a1 := ra_.2
      clear KK rq rz_ rr ra_
      go_simp
      refine (toV v _).mono ?_
      rintro e w6 ⟨rfl, hb6⟩
      exact hK.out _ w6 (Pl.fix rfl) ⟨(F.1.below hb6).skip 1 _ (by decide), (F.2.below hb6).skip 1 _ (by decide)⟩
    refine RelFrom.run rfl (fun L vals A w9 hno hdl hcl hu hp h0 F K hK => ?_) ?_
    · have e6 : A.tmps[6]?.getD undef = .pointer (some ⟨w.heap.size + 1, 0, none⟩) := h0 6 (fun j _ hj => absurd (List.mem_of_getElem? hj) (by decide))
      clear hu h0 hp
      have KK := HK.out.below F.1.bel
      have rq := KK.rv.c4
      have q0 := rq.1
      have q1 := rq.2.1
      have q2 := rq.2.2.1
      have q3 := rq.2.2.2
      have rz_ := KK.rb.c2
      have z0 := rz_.1
      have z1 := rz_.2
      have rr := KK.rr.c2
      have r0 := rr.1
      have r1 := rr.2
      have ra_ := KK.ra.c2
      have a0 := ra_.1
      have a1 := ra_.2
      clear KK rq rz_ rr ra_
      go_simp
      exact hK.out _ w9 (Pl.fix rfl) (⟨F.1.skip 2 _ (by decide), F.2.skip 2 _ (by decide)⟩)
    refine RelFrom.run rfl (fun L vals A w9 hno hdl hcl hu hp h0 F K hK => ?_) ?_
    · have e31 : A.tmps[31]?.getD undef = .agg #[.slice A1 n1 c1, .slice A2 n2 c2] := (hu 2 31 (by kernel_rfl) rfl).trans (hp 2 (by kernel_rfl) _ rfl)
      clear hu h0 hp
      have KK := HK.out.below F.1.bel
      have rq := KK.rv.c4
      have q0 := rq.1
      have q1 := rq.2.1
      have q2 := rq.2.2.1
      have q3 := rq.2.2.2
      have rz_ := KK.rb.c2
      have z0 := rz_.1
      have z1 := rz_.2
      have rr := KK.rr.c2
      have r0 := rr.1
      have r1 := rr.2
      have ra_ := KK.ra.c2
      have a0 := ra_.1
      have a1 := ra_.2
      clear KK rq rz_ rr ra_
      go_simp
      refine (CB.out w9 (HK.out.below F.1.bel).bel).mono ?_
      rintro e w6 ⟨B1, d1, B2, d2, rfl, h1, h2, -, hb6⟩
      simp only [HN1.out, HN2.out] at h1 h2 ⊢
      exact hK.out _ w6 (Pl.any rfl) (⟨by simpa [upd] using F.1.made hb6 h1 h2, (F.2.below hb6).skip 3 _ (by decide)⟩)
    refine RelFrom.run rfl (fun L vals A w9 hno hdl hcl hu hp h0 F K hK => ?_) ?_
    · have e7 : A.tmps[7]?.getD undef = .pointer (some ⟨w.heap.size + 2, 0, none⟩) := h0 7 (fun j _ hj => absurd (List.mem_of_getElem? hj) (by decide))
      clear hu h0 hp
      have KK := HK.out.below F.1.bel
      have rq := KK.rv.c4
      have q0 := rq.1
      have q1 := rq.2.1
      have q2 := rq.2.2.1
      have q3 := rq.2.2.2
      have rz_ := KK.rb.c2
      have z0 := rz_.1
      have z1 := rz_.2
      have rr := KK.rr.c2
      have r0 := rr.1
      have r1 := rr.2
      have ra_ := KK.ra.c2
      have a0 := ra_.1
      have a1 := ra_.2
      clear KK rq rz_ rr ra_
      go_simp
      exact hK.out _ w9 (Pl.fix rfl) (⟨F.1.skip 4 _ (by decide), F.2.skip 4 _ (by decide)⟩)
    refine RelFrom.run rfl (fun L vals A w9 hno hdl hcl hu hp h0 F K hK => ?_) ?_
    · have e33 : A.tmps[33]?.getD undef = .agg #[.int .i64 x, .int .i64 y] := (hu 4 33 (by kernel_rfl) rfl).trans (hp 4 (by kernel_rfl) _ rfl)
      clear hu h0 hp
      have KK := HK.out.below F.1.bel
      have rq := KK.rv.c4
      have q0 := rq.1
      have q1 := rq.2.1
      have q2 := rq.2.2.1
      have q3 := rq.2.2.2
      have rz_ := KK.rb.c2
      have z0 := rz_.1
      have z1 := rz_.2
      have rr := KK.rr.c2
      have r0 := rr.1
      have r1 := rr.2
      have ra_ := KK.ra.c2
      have a0 := ra_.1
      have a1 := ra_.2
      clear KK rq rz_ rr ra_
      go_simp
      refine (toR x y _).mono ?_
      rintro e w6 ⟨rfl, hb6⟩
      exact hK.out _ w6 (Pl.fix rfl) ⟨(F.1.below hb6).skip 5 _ (by decide), (F.2.below hb6).skip 5 _ (by decide)⟩
    refine RelFrom.run rfl (fun L vals A w9 hno hdl hcl hu hp h0 F K hK => ?_) ?_
    · have e8 : A.tmps[8]?.getD undef = .pointer (some ⟨w.heap.size + 3, 0, none⟩) := h0 8 (fun j _ hj => absurd (List.mem_of_getElem? hj) (by decide))
      clear hu h0 hp
      have KK := HK.out.below F.1.bel
      have rq := KK.rv.c4
      have q0 := rq.1
      have q1 := rq.2.1
      have q2 := rq.2.2.1
      have q3 := rq.2.2.2
      have rz_ := KK.rb.c2
      have z0 := rz_.1
      have z1 := rz_.2
      have rr := KK.rr.c2
      have r0 := rr.1
      have r1 := rr.2
      have ra_ := KK.ra.c2
      have a0 := ra_.1
      have a1 := ra_.2
      clear KK rq rz_ rr ra_
      go_simp
      exact hK.out _ w9 (Pl.fix rfl) (⟨F.1.skip 6 _ (by decide), F.2.skip 6 _ (by decide)⟩)
    refine RelFrom.run rfl (fun L vals A w9 hno hdl hcl hu hp h0 F K hK => ?_) ?_
    · have e35 : A.tmps[35]?.getD undef = .agg #[.slice A3 n3 c3, .slice A4 n4 c4] := (hu 6 35 (by kernel_rfl) rfl).trans (hp 6 (by kernel_rfl) _ rfl)
      clear hu h0 hp
      have KK := HK.out.below F.1.bel
      have rq := KK.rv.c4
      have q0 := rq.1
      have q1 := rq.2.1
      have q2 := rq.2.2.1
      have q3 := rq.2.2.2
      have rz_ := KK.rb.c2
      have z0 := rz_.1
      have z1 := rz_.2
      have rr := KK.rr.c2
      have r0 := rr.1
      have r1 := rr.2
      have ra_ := KK.ra.c2
      have a0 := ra_.1
      have a1 := ra_.2
      clear KK rq rz_ rr ra_
      go_simp
      refine (CD.out w9 (HK.out.below F.1.bel).bel).mono ?_
      rintro e w6 ⟨B1, d1, B2, d2, rfl, h1, h2, -, hb6⟩
      simp only [HN3.out, HN4.out] at h1 h2 ⊢
      exact hK.out _ w6 (Pl.any rfl) (⟨(F.1.below hb6).skip 7 _ (by decide), by simpa [upd] using F.2.made hb6 h1 h2⟩)
    refine RelFrom.run rfl (fun L vals A w9 hno hdl hcl hu hp h0 F K hK => ?_) ?_
    · have e4 : A.tmps[4]?.getD undef = .int .i64 d := h0 4 (fun j _ hj => absurd (List.mem_of_getElem? hj) (by decide))
      clear hu h0 hp
      have KK := HK.out.below F.1.bel
      have rq := KK.rv.c4
      have q0 := rq.1
      have q1 := rq.2.1
      have q2 := rq.2.2.1
      have q3 := rq.2.2.2
      have rz_ := KK.rb.c2
      have z0 := rz_.1
      have z1 := rz_.2
      have rr := KK.rr.c2
      have r0 := rr.1
      have r1 := rr.2
      have ra_ := KK.ra.c2
      have a0 := ra_.1
      have a1 := ra_.2
      clear KK rq rz_ rr ra_
      go_simp
      exact hK.out _ w9 (Pl.fix rfl) (⟨F.1.skip 8 _ (by decide), F.2.skip 8 _ (by decide)⟩)
    refine RelFrom.run rfl (fun L vals A w9 hno hdl hcl hu hp h0 F K hK => ?_) ?_
    · have e30 : A.tmps[30]?.getD undef = .agg #[.int .i64 v.p, .int .i64 v.c, .int .i64 v.h, .int .i64 v.s] := (hu 1 30 (by kernel_rfl) rfl).trans (hp 1 (by kernel_rfl) _ rfl)
      have e32 : A.tmps[32]?.getD undef = vals 3 := hu 3 32 (by kernel_rfl) rfl
      have e34 : A.tmps[34]?.getD undef = .agg #[.int .i64 x, .int .i64 y] := (hu 5 34 (by kernel_rfl) rfl).trans (hp 5 (by kernel_rfl) _ rfl)
      have e36 : A.tmps[36]?.getD undef = vals 7 := hu 7 36 (by kernel_rfl) rfl
      have e37 : A.tmps[37]?.getD undef = .int .i64 d := (hu 8 37 (by kernel_rfl) rfl).trans (hp 8 (by kernel_rfl) _ rfl)
      clear hu h0 hp
      refine (F.1.f (hdl 3 (by kernel_rfl))).elim fun B1 q => ?_
      refine q.elim fun d1 q => ?_
      refine q.elim fun B2 q => ?_
      refine q.elim fun d2 q => ?_
      have eb32 := e32.trans q.1
      clear e32
      refine (F.2.f (hdl 7 (by kernel_rfl))).elim fun B3 t => ?_
      refine t.elim fun d3 t => ?_
      refine t.elim fun B4 t => ?_
      refine t.elim fun d4 t => ?_
      have eb36 := e36.trans t.1
      clear e36
      go_simp
      refine (CS.out w9 B1 B2 d1 d2 q.2.1 q.2.2 B3 B4 d3 d4 t.2.1 t.2.2).mono ?_
      rintro e w6 ⟨rfl, hb6⟩
      exact hK.out _ w6 (Pl.fix rfl) ⟨(F.1.below hb6).skip 9 _ (by decide), (F.2.below hb6).skip 9 _ (by decide)⟩
    refine RelFrom.run rfl (fun L vals A w9 hno hdl hcl hu hp h0 F K hK => ?_) ?_
    · have e38 : A.tmps[38]?.getD undef = .tuple #[.int .i64 g1, .int .i64 g2] := (hu 9 38 (by kernel_rfl) rfl).trans (hp 9 (by kernel_rfl) _ rfl)
      clear hu h0 hp
      have KK := HK.out.below F.1.bel
      have rq := KK.rv.c4
      have q0 := rq.1
      have q1 := rq.2.1
      have q2 := rq.2.2.1
      have q3 := rq.2.2.2
      have rz_ := KK.rb.c2
      have z0 := rz_.1
      have z1 := rz_.2
      have rr := KK.rr.c2
      have r0 := rr.1
      have r1 := rr.2
      have ra_ := KK.ra.c2
      have a0 := ra_.1
      have a1 := ra_.2
      clear KK rq rz_ rr ra_
      go_simp
      exact hK.out _ w9 (Pl.fix rfl) (⟨F.1.skip 10 _ (by decide), F.2.skip 10 _ (by decide)⟩)
    refine RelFrom.run rfl (fun L vals A w9 hno hdl hcl hu hp h0 F K hK => ?_) ?_
    · have e28 : A.tmps[28]?.getD undef = .tuple #[.int .i64 g1, .int .i64 g2] := (hu 10 28 (by kernel_rfl) rfl).trans (hp 10 (by kernel_rfl) _ rfl)
      clear hu h0 hp
      have KK := HK.out.below F.1.bel
      have rq := KK.rv.c4
      have q0 := rq.1
      have q1 := rq.2.1
      have q2 := rq.2.2.1
      have q3 := rq.2.2.2
      have rz_ := KK.rb.c2
      have z0 := rz_.1
      have z1 := rz_.2
      have rr := KK.rr.c2
      have r0 := rr.1
      have r1 := rr.2
      have ra_ := KK.ra.c2
      have a0 := ra_.1
      have a1 := ra_.2
      clear KK rq rz_ rr ra_
      go_simp
      exact hK.out _ w9 (Pl.fix rfl) (⟨F.1.skip 11 _ (by decide), F.2.skip 11 _ (by decide)⟩)
    refine RelFrom.run rfl (fun L vals A w9 hno hdl hcl hu hp h0 F K hK => ?_) ?_
    · have e28 : A.tmps[28]?.getD undef = .tuple #[.int .i64 g1, .int .i64 g2] := (hu 10 28 (by kernel_rfl) rfl).trans (hp 10 (by kernel_rfl) _ rfl)
      clear hu h0 hp
      have KK := HK.out.below F.1.bel
      have rq := KK.rv.c4
      have q0 := rq.1
      have q1 := rq.2.1
      have q2 := rq.2.2.1
      have q3 := rq.2.2.2
      have rz_ := KK.rb.c2
      have z0 := rz_.1
      have z1 := rz_.2
      have rr := KK.rr.c2
      have r0 := rr.1
      have r1 := rr.2
      have ra_ := KK.ra.c2
      have a0 := ra_.1
      have a1 := ra_.2
      clear KK rq rz_ rr ra_
      go_simp
      exact hK.out _ w9 (Pl.fix rfl) (⟨F.1.skip 12 _ (by decide), F.2.skip 12 _ (by decide)⟩)
    refine RelFrom.run rfl (fun L vals A w9 hno hdl hcl hu hp h0 F K hK => ?_) ?_
    · have e39 : A.tmps[39]?.getD undef = .int .i64 g1 := (hu 11 39 (by kernel_rfl) rfl).trans (hp 11 (by kernel_rfl) _ rfl)
      clear hu h0 hp
      have KK := HK.out.below F.1.bel
      have rq := KK.rv.c4
      have q0 := rq.1
      have q1 := rq.2.1
      have q2 := rq.2.2.1
      have q3 := rq.2.2.2
      have rz_ := KK.rb.c2
      have z0 := rz_.1
      have z1 := rz_.2
      have rr := KK.rr.c2
      have r0 := rr.1
      have r1 := rr.2
      have ra_ := KK.ra.c2
      have a0 := ra_.1
      have a1 := ra_.2
      clear KK rq rz_ rr ra_
      go_simp
      exact hK.out _ w9 (Pl.fix rfl) (⟨F.1.skip 13 _ (by decide), F.2.skip 13 _ (by decide)⟩)
    refine RelFrom.run rfl (fun L vals A w9 hno hdl hcl hu hp h0 F K hK => ?_) ?_
    · have e40 : A.tmps[40]?.getD undef = .int .i64 g2 := (hu 12 40 (by kernel_rfl) rfl).trans (hp 12 (by kernel_rfl) _ rfl)
      clear hu h0 hp
      have KK := HK.out.below F.1.bel
      have rq := KK.rv.c4
      have q0 := rq.1
      have q1 := rq.2.1
      have q2 := rq.2.2.1
      have q3 := rq.2.2.2
      have rz_ := KK.rb.c2
      have z0 := rz_.1
      have z1 := rz_.2
      have rr := KK.rr.c2
      have r0 := rr.1
      have r1 := rr.2
      have ra_ := KK.ra.c2
      have a0 := ra_.1
      have a1 := ra_.2
      clear KK rq rz_ rr ra_
      go_simp
      exact hK.out _ w9 (Pl.fix rfl) (⟨F.1.skip 14 _ (by decide), F.2.skip 14 _ (by decide)⟩)
    exact RelFrom.nil (by decide)
  case gfin_1 =>
    intro vals w9 hp F
    simp only [Fr, Act.put, List.setIfInBounds_toArray, List.set_cons_zero, List.set_cons_succ, Nat.reduceAdd]
    have K := HK.out.below F.1.bel
    have h12 : vals 13 = .int .i64 g1 := hp 13 (by decide) _ rfl
    have h13 : vals 14 = .int .i64 g2 := hp 14 (by decide) _ rfl
    rw [h12, h13]
    clear F hp h12 h13 HK
    obtain ⟨z0, z1⟩ := K.rb.c2
    have hl2 := K.rb.lt
    go_wp2_with fail
    refine (CB.out w9 K.bel).mono ?_
    rintro e w10 ⟨B1, d1, B2, d2, rfl, h1, h2, -, hb3⟩
    simp only [HN1.out, HN2.out] at h1 h2 ⊢
    have o1 := own_all h1 (Nat.le_refl _)
    have o2 := own_all h2 (Nat.le_refl _)
    have K := K.below hb3
    clear z0 z1 hl2 hb3 h1 h2 CS
    go_upto_region 10 with (fail)
    refine wp_gen (fun W' => Below w10.heap.size w10 W' ∧ RowB W' w10.heap.size 34 [.slice B1 n1 d1, .slice B2 n2 d2]) ?_ ?_
    · exact ⟨(Below.refl _ _).alloc (Nat.le_refl _) _, RowB.new _ _ _⟩
    rintro w4 ⟨hb4, rx⟩
    obtain ⟨gx, hgx⟩ : ∃ g, w10.heap.size = g := ⟨_, rfl⟩
    rw [hgx] at rx ⊢
    have K := K.below hb4
    have o1 := o1.keep (.below hb4)
    have o2 := o2.keep (.below hb4)
    clear hb4 hgx
    obtain ⟨z0, z1⟩ := K.ra.c2
    have hl2 := K.ra.lt
    go_wp2_with fail
    refine (CD.out w4 K.bel).mono ?_
    rintro e w11 ⟨B3, d3, B4, d4, rfl, h1, h2, -, hb3⟩
    simp only [HN3.out, HN4.out] at h1 h2 ⊢
    have o3 := own_all h1 (Nat.le_refl _)
    have o4 := own_all h2 (Nat.le_refl _)
    have K := K.below hb3
    have rx := rx.below hb3 rx.lt
    have o1 := o1.keep (.below hb3)
    have o2 := o2.keep (.below hb3)
    clear z0 z1 hl2 hb3 h1 h2
    go_upto_region 11 with (fail)
    refine wp_gen (fun W' => Below w11.heap.size w11 W' ∧ RowB W' w11.heap.size 34 [.slice B3 n3 d3, .slice B4 n4 d4]) ?_ ?_
    · exact ⟨(Below.refl _ _).alloc (Nat.le_refl _) _, RowB.new _ _ _⟩
    rintro w5 ⟨hb5, ry_⟩
    obtain ⟨gy, hgy⟩ : ∃ g, w11.heap.size = g := ⟨_, rfl⟩
    rw [hgy] at ry_ ⊢
    have K := K.below hb5
    have rx := rx.below hb5 rx.lt
    have HK := Lib.hid K
    have RX := Lib.hid rx
    have RY := Lib.hid ry_
    have O1 := Lib.hid (o1.keep (.below hb5))
    have O2 := Lib.hid (o2.keep (.below hb5))
    have O3 := Lib.hid (o3.keep (.below hb5))
    have O4 := Lib.hid (o4.keep (.below hb5))
    clear K rx ry_ o1 o2 o3 o4 hb5 hgy
    refine region_rel [some 46, some 47, some 48, some 49, some 50, some 51, some 52, some 53, some 45, some 54, some 55, some 16, some 17] 13 (Pl [some (.agg #[.int .i64 v.p, .int .i64 v.c, .int .i64 v.h, .int .i64 v.s]), some (.agg #[.int .i64 v.p, .int .i64 v.c, .int .i64 v.h, .int .i64 v.s]), some (.agg #[.slice B1 n1 d1, .slice B2 n2 d2]), some (.agg #[.int .i64 x, .int .i64 y]), some (.agg #[.int .i64 x, .int .i64 y]), some (.agg #[.slice B3 n3 d3, .slice B4 n4 d4]), some (.int .i64 d), some (.tuple #[.int .i64 g1, .int .i64 g2]), some (.tuple #[.int .i64 g1, .int .i64 g2]), some (.int .i64 g1), some (.int .i64 g2), some (.int .i64 g1), some (.int .i64 g2)]) (fun L vals w' => Below w5.heap.size w5 w') (by kernel_rfl) (by kernel_rfl) (by kernel_rfl) (by kernel_rfl) (by kernel_rfl) (by kernel_rfl) (by kernel_rfl) ?g0_2 ?gst_2 ?gfin_2
    case g0_2 => exact (Below.refl _ _).drew
    case gst_2 =>
      refine RelFrom.run rfl (fun L vals A w9 hno hdl hcl hu hp h0 F K hK => ?_) ?_
      · have e5 : A.tmps[5]?.getD undef = .pointer (some ⟨w.heap.size, 0, none⟩) := h0 5 (fun j _ hj => absurd (List.mem_of_getElem? hj) (by decide))
        clear hu h0 hp
        have KK := HK.out.below F
        have rq := KK.rv.c4
        have q0 := rq.1
        have q1 := rq.2.1
        have q2 := rq.2.2.1
        have q3 := rq.2.2.2
        have rz_ := KK.rb.c2
        have z0 := rz_.1
        have z1 := rz_.2
        have rr := KK.rr.c2
        have r0 := rr.1
        have r1 := rr.2
        have ra_ := KK.ra.c2
        have a0 := ra_.1
        have a1 := ra_.2
        clear KK rq rz_ rr ra_
        have rx9 := (RX.out.below F RX.out.lt).c2
        have x0 := rx9.1
        have x1 := rx9.2
        have ry9 := (RY.out.below F RY.out.lt).c2
        have y0 := ry9.1
        have y1 := ry9.2
        clear rx9 ry9
        go_simp
        exact hK.out _ w9 (Pl.fix rfl) (F)
      refine RelFrom.run rfl (fun L vals A w9 hno hdl hcl hu hp h0 F K hK => ?_) ?_
      · have e46 : A.tmps[46]?.getD undef = .agg #[.int .i64 v.p, .int .i64 v.c, .int .i64 v.h, .int .i64 v.s] := (hu 0 46 (by kernel_rfl) rfl).trans (hp 0 (by kernel_rfl) _ rfl)
        clear hu h0 hp
        have KK := HK.out.below F
        have rq := KK.rv.c4
        have q0 := rq.1
        have q1 := rq.2.1
        have q2 := rq.2.2.1
        have q3 := rq.2.2.2
        have rz_ := KK.rb.c2
        have z0 := rz_.1
        have z1 := rz_.2
        have rr := KK.rr.c2
        have r0 := rr.1
        have r1 := rr.2
        have ra_ := KK.ra.c2
        have a0 := ra_.1
        have a1 := ra_.2
        clear KK rq rz_ rr ra_
        go_simp
        refine (toV v _).mono ?_
        rintro e w6 ⟨rfl, hb6⟩
        exact hK.out _ w6 (Pl.fix rfl) (F.trans (hb6.mono F.size))
      refine RelFrom.run rfl (fun L vals A w9 hno hdl hcl hu hp h0 F K hK => ?_) ?_
      · have e14 : A.tmps[14]?.getD undef = .pointer (some ⟨gx, 0, none⟩) := h0 14 (fun j _ hj => absurd (List.mem_of_getElem? hj) (by decide))
        clear hu h0 hp
        have KK := HK.out.below F
        have rq := KK.rv.c4
        have q0 := rq.1
        have q1 := rq.2.1
        have q2 := rq.2.2.1
        have q3 := rq.2.2.2
        have rz_ := KK.rb.c2
        have z0 := rz_.1
        have z1 := rz_.2
        have rr := KK.rr.c2
        have r0 := rr.1
        have r1 := rr.2
        have ra_ := KK.ra.c2
        have a0 := ra_.1
        have a1 := ra_.2
        clear KK rq rz_ rr ra_
        have rx9 := (RX.out.below F RX.out.lt).c2
        have x0 := rx9.1
        have x1 := rx9.2
        have ry9 := (RY.out.below F RY.out.lt).c2
        have y0 := ry9.1
        have y1 := ry9.2
        clear rx9 ry9
        go_simp
        exact hK.out _ w9 (Pl.fix rfl) (F)
      refine RelFrom.run rfl (fun L vals A w9 hno hdl hcl hu hp h0 F K hK => ?_) ?_
      · have e7 : A.tmps[7]?.getD undef = .pointer (some ⟨w.heap.size + 2, 0, none⟩) := h0 7 (fun j _ hj => absurd (List.mem_of_getElem? hj) (by decide))
        clear hu h0 hp
        have KK := HK.out.below F
        have rq := KK.rv.c4
        have q0 := rq.1
        have q1 := rq.2.1
        have q2 := rq.2.2.1
        have q3 := rq.2.2.2
        have rz_ := KK.rb.c2
        have z0 := rz_.1
        have z1 := rz_.2
        have rr := KK.rr.c2
        have r0 := rr.1
        have r1 := rr.2
        have ra_ := KK.ra.c2
        have a0 := ra_.1
        have a1 := ra_.2
        clear KK rq rz_ rr ra_
        have rx9 := (RX.out.below F RX.out.lt).c2
        have x0 := rx9.1
        have x1 := rx9.2
        have ry9 := (RY.out.below F RY.out.lt).c2
        have y0 := ry9.1
        have y1 := ry9.2
        clear rx9 ry9
        go_simp
        exact hK.out _ w9 (Pl.fix rfl) (F)
      refine RelFrom.run rfl (fun L vals A w9 hno hdl hcl hu hp h0 F K hK => ?_) ?_
      · have e49 : A.tmps[49]?.getD undef = .agg #[.int .i64 x, .int .i64 y] := (hu 3 49 (by kernel_rfl) rfl).trans (hp 3 (by kernel_rfl) _ rfl)
        clear hu h0 hp
        have KK := HK.out.below F
        have rq := KK.rv.c4
        have q0 := rq.1
        have q1 := rq.2.1
        have q2 := rq.2.2.1
        have q3 := rq.2.2.2
        have rz_ := KK.rb.c2
        have z0 := rz_.1
        have z1 := rz_.2
        have rr := KK.rr.c2
        have r0 := rr.1
        have r1 := rr.2
        have ra_ := KK.ra.c2
        have a0 := ra_.1
        have a1 := ra_.2
        clear KK rq rz_ rr ra_
        go_simp
        refine (toR x y _).mono ?_
        rintro e w6 ⟨rfl, hb6⟩
        exact hK.out _ w6 (Pl.fix rfl) (F.trans (hb6.mono F.size))
      refine RelFrom.run rfl (fun L vals A w9 hno hdl hcl hu hp h0 F K hK => ?_) ?_
      · have e15 : A.tmps[15]?.getD undef = .pointer (some ⟨gy, 0, none⟩) := h0 15 (fun j _ hj => absurd (List.mem_of_getElem? hj) (by decide))
        clear hu h0 hp
        have KK := HK.out.below F
        have rq := KK.rv.c4
        have q0 := rq.1
        have q1 := rq.2.1
        have q2 := rq.2.2.1
        have q3 := rq.2.2.2
        have rz_ := KK.rb.c2
        have z0 := rz_.1
        have z1 := rz_.2
        have rr := KK.rr.c2
        have r0 := rr.1
        have r1 := rr.2
        have ra_ := KK.ra.c2
        have a0 := ra_.1
        have a1 := ra_.2
        clear KK rq rz_ rr ra_
        have rx9 := (RX.out.below F RX.out.lt).c2
        have x0 := rx9.1
        have x1 := rx9.2
        have ry9 := (RY.out.below F RY.out.lt).c2
        have y0 := ry9.1
        have y1 := ry9.2
        clear rx9 ry9
        go_simp
        exact hK.out _ w9 (Pl.fix rfl) (F)
      refine RelFrom.run rfl (fun L vals A w9 hno hdl hcl hu hp h0 F K hK => ?_) ?_
      · have e4 : A.tmps[4]?.getD undef = .int .i64 d := h0 4 (fun j _ hj => absurd (List.mem_of_getElem? hj) (by decide))
        clear hu h0 hp
        have KK := HK.out.below F
        have rq := KK.rv.c4
        have q0 := rq.1
        have q1 := rq.2.1
        have q2 := rq.2.2.1
        have q3 := rq.2.2.2
        have rz_ := KK.rb.c2
        have z0 := rz_.1
        have z1 := rz_.2
        have rr := KK.rr.c2
        have r0 := rr.1
        have r1 := rr.2
        have ra_ := KK.ra.c2
        have a0 := ra_.1
        have a1 := ra_.2
        clear KK rq rz_ rr ra_
        have rx9 := (RX.out.below F RX.out.lt).c2
        have x0 := rx9.1
        have x1 := rx9.2
        have ry9 := (RY.out.below F RY.out.lt).c2
        have y0 := ry9.1
        have y1 := ry9.2
        clear rx9 ry9
        go_simp
        exact hK.out _ w9 (Pl.fix rfl) (F)
      refine RelFrom.run rfl (fun L vals A w9 hno hdl hcl hu hp h0 F K hK => ?_) ?_
      · have e47 : A.tmps[47]?.getD undef = .agg #[.int .i64 v.p, .int .i64 v.c, .int .i64 v.h, .int .i64 v.s] := (hu 1 47 (by kernel_rfl) rfl).trans (hp 1 (by kernel_rfl) _ rfl)
        have e48 : A.tmps[48]?.getD undef = .agg #[.slice B1 n1 d1, .slice B2 n2 d2] := (hu 2 48 (by kernel_rfl) rfl).trans (hp 2 (by kernel_rfl) _ rfl)
        have e50 : A.tmps[50]?.getD undef = .agg #[.int .i64 x, .int .i64 y] := (hu 4 50 (by kernel_rfl) rfl).trans (hp 4 (by kernel_rfl) _ rfl)
        have e51 : A.tmps[51]?.getD undef = .agg #[.slice B3 n3 d3, .slice B4 n4 d4] := (hu 5 51 (by kernel_rfl) rfl).trans (hp 5 (by kernel_rfl) _ rfl)
        have e52 : A.tmps[52]?.getD undef = .int .i64 d := (hu 6 52 (by kernel_rfl) rfl).trans (hp 6 (by kernel_rfl) _ rfl)
        clear hu h0 hp
        go_simp
        refine (CI.out w9 B1 B2 d1 d2 (O1.out.keep (.below F)) (O2.out.keep (.below F)) B3 B4 d3 d4 (O3.out.keep (.below F)) (O4.out.keep (.below F))).mono ?_
        rintro e w6 ⟨rfl, hb6⟩
        exact hK.out _ w6 (Pl.fix rfl) (F.trans (hb6.mono F.size))
      refine RelFrom.run rfl (fun L vals A w9 hno hdl hcl hu hp h0 F K hK => ?_) ?_
      · have e53 : A.tmps[53]?.getD undef = .tuple #[.int .i64 g1, .int .i64 g2] := (hu 7 53 (by kernel_rfl) rfl).trans (hp 7 (by kernel_rfl) _ rfl)
        clear hu h0 hp
        have KK := HK.out.below F
        have rq := KK.rv.c4
        have q0 := rq.1
        have q1 := rq.2.1
        have q2 := rq.2.2.1
        have q3 := rq.2.2.2
        have rz_ := KK.rb.c2
        have z0 := rz_.1
        have z1 := rz_.2
        have rr := KK.rr.c2
        have r0 := rr.1
        have r1 := rr.2
        have ra_ := KK.ra.c2
        have a0 := ra_.1
        have a1 := ra_.2
        clear KK rq rz_ rr ra_
        have rx9 := (RX.out.below F RX.out.lt).c2
        have x0 := rx9.1
        have x1 := rx9.2
        have ry9 := (RY.out.below F RY.out.lt).c2
        have y0 := ry9.1
        have y1 := ry9.2
        clear rx9 ry9
        go_simp
        exact hK.out _ w9 (Pl.fix rfl) (F)
      refine RelFrom.run rfl (fun L vals A w9 hno hdl hcl hu hp h0 F K hK => ?_) ?_
      · have e45 : A.tmps[45]?.getD undef = .tuple #[.int .i64 g1, .int .i64 g2] := (hu 8 45 (by kernel_rfl) rfl).trans (hp 8 (by kernel_rfl) _ rfl)
        clear hu h0 hp
        have KK := HK.out.below F
        have rq := KK.rv.c4
        have q0 := rq.1
        have q1 := rq.2.1
        have q2 := rq.2.2.1
        have q3 := rq.2.2.2
        have rz_ := KK.rb.c2
        have z0 := rz_.1
        have z1 := rz_.2
        have rr := KK.rr.c2
        have r0 := rr.1
        have r1 := rr.2
        have ra_ := KK.ra.c2
        have a0 := ra_.1
        have a1 := ra_.2
        clear KK rq rz_ rr ra_
        have rx9 := (RX.out.below F RX.out.lt).c2
        have x0 := rx9.1
        have x1 := rx9.2
        have ry9 := (RY.out.below F RY.out.lt).c2
        have y0 := ry9.1
        have y1 := ry9.2
        clear rx9 ry9
        go_simp
        exact hK.out _ w9 (Pl.fix rfl) (F)
      refine RelFrom.run rfl (fun L vals A w9 hno hdl hcl hu hp h0 F K hK => ?_) ?_
      · have e45 : A.tmps[45]?.getD undef = .tuple #[.int .i64 g1, .int .i64 g2] := (hu 8 45 (by kernel_rfl) rfl).trans (hp 8 (by kernel_rfl) _ rfl)
        clear hu h0 hp
        have KK := HK.out.below F
        have rq := KK.rv.c4
        have q0 := rq.1
        have q1 := rq.2.1
        have q2 := rq.2.2.1
        have q3 := rq.2.2.2
        have rz_ := KK.rb.c2
        have z0 := rz_.1
        have z1 := rz_.2
        have rr := KK.rr.c2
        have r0 := rr.1
        have r1 := rr.2
        have ra_ := KK.ra.c2
        have a0 := ra_.1
        have a1 := ra_.2
        clear KK rq rz_ rr ra_
        have rx9 := (RX.out.below F RX.out.lt).c2
        have x0 := rx9.1
        have x1 := rx9.2
        have ry9 := (RY.out.below F RY.out.lt).c2
        have y0 := ry9.1
        have y1 := ry9.2
        clear rx9 ry9
        go_simp
        exact hK.out _ w9 (Pl.fix rfl) (F)
      refine RelFrom.run rfl (fun L vals A w9 hno hdl hcl hu hp h0 F K hK => ?_) ?_
      · have e54 : A.tmps[54]?.getD undef = .int .i64 g1 := (hu 9 54 (by kernel_rfl) rfl).trans (hp 9 (by kernel_rfl) _ rfl)
        clear hu h0 hp
        have KK := HK.out.below F
        have rq := KK.rv.c4
        have q0 := rq.1
        have q1 := rq.2.1
        have q2 := rq.2.2.1
        have q3 := rq.2.2.2
        have rz_ := KK.rb.c2
        have z0 := rz_.1
        have z1 := rz_.2
        have rr := KK.rr.c2
        have r0 := rr.1
        have r1 := rr.2
        have ra_ := KK.ra.c2
        have a0 := ra_.1
        have a1 := ra_.2
        clear KK rq rz_ rr ra_
        have rx9 := (RX.out.below F RX.out.lt).c2
        have x0 := rx9.1
        have x1 := rx9.2
        have ry9 := (RY.out.below F RY.out.lt).c2
        have y0 := ry9.1
        have y1 := ry9.2
        clear rx9 ry9
        go_simp
        exact hK.out _ w9 (Pl.fix rfl) (F)
      refine RelFrom.run rfl (fun L vals A w9 hno hdl hcl hu hp h0 F K hK => ?_) ?_
      · have e55 : A.tmps[55]?.getD undef = .int .i64 g2 := (hu 10 55 (by kernel_rfl) rfl).trans (hp 10 (by kernel_rfl) _ rfl)
        clear hu h0 hp
        have KK := HK.out.below F
        have rq := KK.rv.c4
        have q0 := rq.1
        have q1 := rq.2.1
        have q2 := rq.2.2.1
        have q3 := rq.2.2.2
        have rz_ := KK.rb.c2
        have z0 := rz_.1
        have z1 := rz_.2
        have rr := KK.rr.c2
        have r0 := rr.1
        have r1 := rr.2
        have ra_ := KK.ra.c2
        have a0 := ra_.1
        have a1 := ra_.2
        clear KK rq rz_ rr ra_
        have rx9 := (RX.out.below F RX.out.lt).c2
        have x0 := rx9.1
        have x1 := rx9.2
        have ry9 := (RY.out.below F RY.out.lt).c2
        have y0 := ry9.1
        have y1 := ry9.2
        clear rx9 ry9
        go_simp
        exact hK.out _ w9 (Pl.fix rfl) (F)
      exact RelFrom.nil (by decide)
    case gfin_2 =>
      intro vals w9 hp F
      simp only [Fr, Act.put, List.setIfInBounds_toArray, List.set_cons_zero, List.set_cons_succ, Nat.reduceAdd]
      have K := HK.out.below F
      have rx := RX.out.below F RX.out.lt
      have ry_ := RY.out.below F RY.out.lt
      have o1 := O1.out.keep (.below F)
      have o2 := O2.out.keep (.below F)
      have o3 := O3.out.keep (.below F)
      have o4 := O4.out.keep (.below F)
      have h11 : vals 11 = .int .i64 g1 := hp 11 (by decide) _ rfl
      have h12 : vals 12 = .int .i64 g2 := hp 12 (by decide) _ rfl
      rw [h11, h12]
      clear F hp h11 h12 HK RX RY O1 O2 O3 O4 CI
      have e1 : (g1 != g1) = false := by simp
      have e2 : (g2 != g2) = false := by simp
      have HK := Lib.hid K
      have RX := Lib.hid rx
      have RY := Lib.hid ry_
      have O1 := Lib.hid o1
      have O2 := Lib.hid o2
      have O3 := Lib.hid o3
      have O4 := Lib.hid o4
      clear K rx ry_ o1 o2 o3 o4
      go_wp2_with fail
      refine region_rel [some 64, some 65, some 66, some 67, some 68] 5 (Pl [some (.agg #[.slice B1 n1 d1, .slice B2 n2 d2]), some (.agg #[.slice A1 n1 c1, .slice A2 n2 c2]), none, some (.bool true), some (.bool false)]) (fun L vals w' => LwF w9 l m n1 n2 (L 2) (vals 2) w') (by kernel_rfl) (by kernel_rfl) (by kernel_rfl) (by kernel_rfl) (by kernel_rfl) (by kernel_rfl) (by kernel_rfl) ?g0_3 ?gst_3 ?gfin_3
      case g0_3 => exact ⟨(Below.refl _ _).drew, fun h => absurd h (by decide)⟩
      case gst_3 =>
        refine RelFrom.run rfl (fun L vals A w9 hno hdl hcl hu hp h0 F K hK => ?_) ?_
        · have e14 : A.tmps[14]?.getD undef = .pointer (some ⟨gx, 0, none⟩) := h0 14 (fun j _ hj => absurd (List.mem_of_getElem? hj) (by decide))
          clear hu h0 hp
          have KK := HK.out.below F.bel
          have rq := KK.rv.c4
          have q0 := rq.1
          have q1 := rq.2.1
          have q2 := rq.2.2.1
          have q3 := rq.2.2.2
          have rz_ := KK.rb.c2
          have z0 := rz_.1
          have z1 := rz_.2
          have rr := KK.rr.c2
          have r0 := rr.1
          have r1 := rr.2
          have ra_ := KK.ra.c2
          have a0 := ra_.1
          have a1 := ra_.2
          clear KK rq rz_ rr ra_
          have rx9 := (RX.out.below F.bel RX.out.lt).c2
          have x0 := rx9.1
          have x1 := rx9.2
          have ry9 := (RY.out.below F.bel RY.out.lt).c2
          have y0 := ry9.1
          have y1 := ry9.2
          clear rx9 ry9
          go_simp
          exact hK.out _ w9 (Pl.fix rfl) (F.skip 0 _ (by decide))
        refine RelFrom.run rfl (fun L vals A w9 hno hdl hcl hu hp h0 F K hK => ?_) ?_
        · have e6 : A.tmps[6]?.getD undef = .pointer (some ⟨w.heap.size + 1, 0, none⟩) := h0 6 (fun j _ hj => absurd (List.mem_of_getElem? hj) (by decide))
          clear hu h0 hp
          have KK := HK.out.below F.bel
          have rq := KK.rv.c4
          have q0 := rq.1
          have q1 := rq.2.1
          have q2 := rq.2.2.1
          have q3 := rq.2.2.2
          have rz_ := KK.rb.c2
          have z0 := rz_.1
          have z1 := rz_.2
          have rr := KK.rr.c2
          have r0 := rr.1
          have r1 := rr.2
          have ra_ := KK.ra.c2
          have a0 := ra_.1
          have a1 := ra_.2
          clear KK rq rz_ rr ra_
          have rx9 := (RX.out.below F.bel RX.out.lt).c2
          have x0 := rx9.1
          have x1 := rx9.2
          have ry9 := (RY.out.below F.bel RY.out.lt).c2
          have y0 := ry9.1
          have y1 := ry9.2
          clear rx9 ry9
          go_simp
          exact hK.out _ w9 (Pl.fix rfl) (F.skip 1 _ (by decide))
        refine RelFrom.run rfl (fun L vals A w9 hno hdl hcl hu hp h0 F K hK => ?_) ?_
        · have e65 : A.tmps[65]?.getD undef = .agg #[.slice A1 n1 c1, .slice A2 n2 c2] := (hu 1 65 (by kernel_rfl) rfl).trans (hp 1 (by kernel_rfl) _ rfl)
          clear hu h0 hp
          have KK := HK.out.below F.bel
          have rq := KK.rv.c4
          have q0 := rq.1
          have q1 := rq.2.1
          have q2 := rq.2.2.1
          have q3 := rq.2.2.2
          have rz_ := KK.rb.c2
          have z0 := rz_.1
          have z1 := rz_.2
          have rr := KK.rr.c2
          have r0 := rr.1
          have r1 := rr.2
          have ra_ := KK.ra.c2
          have a0 := ra_.1
          have a1 := ra_.2
          clear KK rq rz_ rr ra_
          go_simp
          refine (CB.out w9 (HK.out.below F.bel).bel).mono ?_
          rintro e w6 ⟨B1, d1, B2, d2, rfl, h1, h2, -, hb6⟩
          simp only [HN1.out, HN2.out] at h1 h2 ⊢
          exact hK.out _ w6 (Pl.any rfl) (by simpa [upd] using F.made hb6 h1 h2)
        refine RelFrom.run rfl (fun L vals A w9 hno hdl hcl hu hp h0 F K hK => ?_) ?_
        · have e64 : A.tmps[64]?.getD undef = .agg #[.slice B1 n1 d1, .slice B2 n2 d2] := (hu 0 64 (by kernel_rfl) rfl).trans (hp 0 (by kernel_rfl) _ rfl)
          have e66 : A.tmps[66]?.getD undef = vals 2 := hu 2 66 (by kernel_rfl) rfl
          clear hu h0 hp
          refine (F.f (hdl 2 (by kernel_rfl))).elim fun C3 q => ?_
          refine q.elim fun f3 q => ?_
          refine q.elim fun C4 q => ?_
          refine q.elim fun f4 q => ?_
          have eb := e66.trans q.1
          clear e66
          go_simp
          refine (CE.out w9 B1 B2 C3 C4 d1 d2 f3 f4 (O1.out.keep (.below F.bel)) (O2.out.keep (.below F.bel)) q.2.1 q.2.2).mono ?_
          rintro e w6 ⟨rfl, hb6⟩
          exact hK.out _ w6 (Pl.fix rfl) ((F.below hb6).skip 3 _ (by decide))
        refine RelFrom.run rfl (fun L vals A w9 hno hdl hcl hu hp h0 F K hK => ?_) ?_
        · have e67 : A.tmps[67]?.getD undef = .bool true := (hu 3 67 (by kernel_rfl) rfl).trans (hp 3 (by kernel_rfl) _ rfl)
          clear hu h0 hp
          have KK := HK.out.below F.bel
          have rq := KK.rv.c4
          have q0 := rq.1
          have q1 := rq.2.1
          have q2 := rq.2.2.1
          have q3 := rq.2.2.2
          have rz_ := KK.rb.c2
          have z0 := rz_.1
          have z1 := rz_.2
          have rr := KK.rr.c2
          have r0 := rr.1
          have r1 := rr.2
          have ra_ := KK.ra.c2
          have a0 := ra_.1
          have a1 := ra_.2
          clear KK rq rz_ rr ra_
          have rx9 := (RX.out.below F.bel RX.out.lt).c2
          have x0 := rx9.1
          have x1 := rx9.2
          have ry9 := (RY.out.below F.bel RY.out.lt).c2
          have y0 := ry9.1
          have y1 := ry9.2
          clear rx9 ry9
          go_simp
          exact hK.out _ w9 (Pl.fix rfl) (F.skip 4 _ (by decide))
        exact RelFrom.nil (by decide)
      case gfin_3 =>
        intro vals w9 hp F
        simp only [Fr, Act.put, List.setIfInBounds_toArray, List.set_cons_zero, List.set_cons_succ, Nat.reduceAdd]
        have K := HK.out.below F.bel
        have rx := RX.out.below F.bel RX.out.lt
        have ry_ := RY.out.below F.bel RY.out.lt
        have o1 := O1.out.keep (.below F.bel)
        have o2 := O2.out.keep (.below F.bel)
        have o3 := O3.out.keep (.below F.bel)
        have o4 := O4.out.keep (.below F.bel)
        have h4 : vals 4 = .bool false := hp 4 (by decide) _ rfl
        rw [h4]
        clear F hp h4 HK RX RY O1 O2 O3 O4
        have HK := Lib.hid K
        have RX := Lib.hid rx
        have RY := Lib.hid ry_
        have O1 := Lib.hid o1
        have O2 := Lib.hid o2
        have O3 := Lib.hid o3
        have O4 := Lib.hid o4
        clear K rx ry_ o1 o2 o3 o4
        go_wp2_with fail
        refine region_rel [some 69, some 70, some 71, some 72, some 73] 5 (Pl [some (.agg #[.slice B3 n3 d3, .slice B4 n4 d4]), some (.agg #[.slice A3 n3 c3, .slice A4 n4 c4]), none, some (.bool true), some (.bool false)]) (fun L vals w' => LwF w9 l3 l4 n3 n4 (L 2) (vals 2) w') (by kernel_rfl) (by kernel_rfl) (by kernel_rfl) (by kernel_rfl) (by kernel_rfl) (by kernel_rfl) (by kernel_rfl) ?g0_4 ?gst_4 ?gfin_4
        case g0_4 => exact ⟨(Below.refl _ _).drew, fun h => absurd h (by decide)⟩
        case gst_4 =>
          refine RelFrom.run rfl (fun L vals A w9 hno hdl hcl hu hp h0 F K hK => ?_) ?_
          · have e15 : A.tmps[15]?.getD undef = .pointer (some ⟨gy, 0, none⟩) := h0 15 (fun j _ hj => absurd (List.mem_of_getElem? hj) (by decide))
            clear hu h0 hp
            have KK := HK.out.below F.bel
            have rq := KK.rv.c4
            have q0 := rq.1
            have q1 := rq.2.1
            have q2 := rq.2.2.1
            have q3 := rq.2.2.2
            have rz_ := KK.rb.c2
            have z0 := rz_.1
            have z1 := rz_.2
            have rr := KK.rr.c2
            have r0 := rr.1
            have r1 := rr.2
            have ra_ := KK.ra.c2
            have a0 := ra_.1
            have a1 := ra_.2
            clear KK rq rz_ rr ra_
            have rx9 := (RX.out.below F.bel RX.out.lt).c2
            have x0 := rx9.1
            have x1 := rx9.2
            have ry9 := (RY.out.below F.bel RY.out.lt).c2
            have y0 := ry9.1
            have y1 := ry9.2
            clear rx9 ry9
            go_simp
            exact hK.out _ w9 (Pl.fix rfl) (F.skip 0 _ (by decide))
          refine RelFrom.run rfl (fun L vals A w9 hno hdl hcl hu hp h0 F K hK => ?_) ?_
          · have e8 : A.tmps[8]?.getD undef = .pointer (some ⟨w.heap.size + 3, 0, none⟩) := h0 8 (fun j _ hj => absurd (List.mem_of_getElem? hj) (by decide))
            clear hu h0 hp
            have KK := HK.out.below F.bel
            have rq := KK.rv.c4
            have q0 := rq.1
            have q1 := rq.2.1
            have q2 := rq.2.2.1
            have q3 := rq.2.2.2
            have rz_ := KK.rb.c2
            have z0 := rz_.1
            have z1 := rz_.2
            have rr := KK.rr.c2
            have r0 := rr.1
            have r1 := rr.2
            have ra_ := KK.ra.c2
            have a0 := ra_.1
            have a1 := ra_.2
            clear KK rq rz_ rr ra_
            have rx9 := (RX.out.below F.bel RX.out.lt).c2
            have x0 := rx9.1
            have x1 := rx9.2
            have ry9 := (RY.out.below F.bel RY.out.lt).c2
            have y0 := ry9.1
            have y1 := ry9.2
            clear rx9 ry9
            go_simp
            exact hK.out _ w9 (Pl.fix rfl) (F.skip 1 _ (by decide))
          refine RelFrom.run rfl (fun L vals A w9 hno hdl hcl hu hp h0 F K hK => ?_) ?_
          · have e70 : A.tmps[70]?.getD undef = .agg #[.slice A3 n3 c3, .slice A4 n4 c4] := (hu 1 70 (by kernel_rfl) rfl).trans (hp 1 (by kernel_rfl) _ rfl)
            clear hu h0 hp
            have KK := HK.out.below F.bel
            have rq := KK.rv.c4
            have q0 := rq.1
            have q1 := rq.2.1
            have q2 := rq.2.2.1
            have q3 := rq.2.2.2
            have rz_ := KK.rb.c2
            have z0 := rz_.1
            have z1 := rz_.2
            have rr := KK.rr.c2
            have r0 := rr.1
            have r1 := rr.2
            have ra_ := KK.ra.c2
            have a0 := ra_.1
            have a1 := ra_.2
            clear KK rq rz_ rr ra_
            go_simp
            refine (CD.out w9 (HK.out.below F.bel).bel).mono ?_
            rintro e w6 ⟨B1, d1, B2, d2, rfl, h1, h2, -, hb6⟩
            simp only [HN3.out, HN4.out] at h1 h2 ⊢
            exact hK.out _ w6 (Pl.any rfl) (by simpa [upd] using F.made hb6 h1 h2)
          refine RelFrom.run rfl (fun L vals A w9 hno hdl hcl hu hp h0 F K hK => ?_) ?_
          · have e69 : A.tmps[69]?.getD undef = .agg #[.slice B3 n3 d3, .slice B4 n4 d4] := (hu 0 69 (by kernel_rfl) rfl).trans (hp 0 (by kernel_rfl) _ rfl)
            have e71 : A.tmps[71]?.getD undef = vals 2 := hu 2 71 (by kernel_rfl) rfl
            clear hu h0 hp
            refine (F.f (hdl 2 (by kernel_rfl))).elim fun C3 q => ?_
            refine q.elim fun f3 q => ?_
            refine q.elim fun C4 q => ?_
            refine q.elim fun f4 q => ?_
            have eb := e71.trans q.1
            clear e71
            go_simp
            refine (CG.out w9 B3 B4 C3 C4 d3 d4 f3 f4 (O3.out.keep (.below F.bel)) (O4.out.keep (.below F.bel)) q.2.1 q.2.2).mono ?_
            rintro e w6 ⟨rfl, hb6⟩
            exact hK.out _ w6 (Pl.fix rfl) ((F.below hb6).skip 3 _ (by decide))
          refine RelFrom.run rfl (fun L vals A w9 hno hdl hcl hu hp h0 F K hK => ?_) ?_
          · have e72 : A.tmps[72]?.getD undef = .bool true := (hu 3 72 (by kernel_rfl) rfl).trans (hp 3 (by kernel_rfl) _ rfl)
            clear hu h0 hp
            have KK := HK.out.below F.bel
            have rq := KK.rv.c4
            have q0 := rq.1
            have q1 := rq.2.1
            have q2 := rq.2.2.1
            have q3 := rq.2.2.2
            have rz_ := KK.rb.c2
            have z0 := rz_.1
            have z1 := rz_.2
            have rr := KK.rr.c2
            have r0 := rr.1
            have r1 := rr.2
            have ra_ := KK.ra.c2
            have a0 := ra_.1
            have a1 := ra_.2
            clear KK rq rz_ rr ra_
            have rx9 := (RX.out.below F.bel RX.out.lt).c2
            have x0 := rx9.1
            have x1 := rx9.2
            have ry9 := (RY.out.below F.bel RY.out.lt).c2
            have y0 := ry9.1
            have y1 := ry9.2
            clear rx9 ry9
            go_simp
            exact hK.out _ w9 (Pl.fix rfl) (F.skip 4 _ (by decide))
          exact RelFrom.nil (by decide)
        case gfin_4 =>
          intro vals w9 hp F
          simp only [Fr, Act.put, List.setIfInBounds_toArray, List.set_cons_zero, List.set_cons_succ, Nat.reduceAdd]
          have bel := (HK.out.below F.bel).bel
          have h4 : vals 4 = .bool false := hp 4 (by decide) _ rfl
          rw [h4]
          clear F hp h4
          go_wp2_with fail
          go_ret
          exact ⟨rfl, bel⟩
end Go.Proofs.Ytfgkkmhafdbicaa.LossLaw
