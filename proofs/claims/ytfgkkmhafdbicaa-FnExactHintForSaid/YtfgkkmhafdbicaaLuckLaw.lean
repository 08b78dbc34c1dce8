/-
  The walk of the law FnExactLuckOf. Conditions: each theorem's own.
-/
import Derived.Test.YtfgkkmhafdbicaaBd28
import Derived.Test.YtfgkkmhafdbicaaBd29
set_option linter.unusedVariables false
set_option linter.unusedSimpArgs false
namespace Go.Proofs.Ytfgkkmhafdbicaa.LuckLaw
open Go.ChangeShapes Go.WideShapes Go.ChangeAt Go.RowKit Base Ints Own Clone RelG PlP Bd1 Bd6 RegInv RegF RegG Bd25 Bd28 Bd29

/-- A board is copied, a call is made with it. -/
structure LwF (w1 : World) (l m : List Int) (n1 n2 : Nat) (p : Prop) (u : Value) (w' : World) : Prop where
  bel : Below w1.heap.size w1 w'
  f : p → ∃ A1 c1 A2 c2, u = .agg #[.slice A1 n1 c1, .slice A2 n2 c2] ∧ OwnV 2 1 enI w' All (.slice A1 n1 c1) l ∧ OwnV 2 1 enI w' All (.slice A2 n2 c2) m
theorem LwF.below {w1 w' w'' : World} {l m : List Int} {n1 n2 : Nat} {p : Prop} {u : Value} (F : LwF w1 l m n1 n2 p u w') (hb : Below w'.heap.size w' w'') : LwF w1 l m n1 n2 p u w'' :=
  ⟨F.bel.trans (hb.mono F.bel.size), fun h => by obtain ⟨A1, c1, A2, c2, e, h1, h2⟩ := F.f h; exact ⟨A1, c1, A2, c2, e, h1.keep (.below hb), h2.keep (.below hb)⟩⟩
theorem LwF.skip {i : Nat} {w1 w' : World} {l m : List Int} {n1 n2 : Nat} {L : Nat → Prop} {vals : Nat → Value} (F : LwF w1 l m n1 n2 (L i) (vals i) w') (k : Nat) (x : Value) (h : i ≠ k) : LwF w1 l m n1 n2 (i = k ∨ L i) (upd vals k x i) w' := by
  rw [or_ne h, upd_ne h]; exact F
theorem LwF.made {w1 w' w'' : World} {l m : List Int} {n1 n2 : Nat} {p : Prop} {u : Value} (F : LwF w1 l m n1 n2 p u w') (hb : Below w'.heap.size w' w'') {A1 A2 : Option Addr} {c1 c2 : Nat} (h1 : OwnS w'' w'.heap.size w''.heap.size 2 1 enI (.slice A1 n1 c1) l) (h2 : OwnS w'' w'.heap.size w''.heap.size 2 1 enI (.slice A2 n2 c2) m) :
    LwF w1 l m n1 n2 True (.agg #[.slice A1 n1 c1, .slice A2 n2 c2]) w'' := ⟨F.bel.trans (hb.mono F.bel.size), fun _ => ⟨A1, c1, A2, c2, rfl, own_all h1 (Nat.le_refl _), own_all h2 (Nat.le_refl _)⟩⟩
/-- The boxes of the law's arguments. -/
structure L3 (w wr : World) (v : Vr) (bs : List Value) (x y : Int) : Prop where
  bel : Below w.heap.size w wr
  rv : RowB wr w.heap.size 23 [.int .i64 v.p, .int .i64 v.c, .int .i64 v.h, .int .i64 v.s]
  rb : RowB wr (w.heap.size + 1) 26 bs
  rr : RowB wr (w.heap.size + 2) 28 [.int .i64 x, .int .i64 y]
theorem L3.below {w wr w' : World} {v : Vr} {bs : List Value} {x y : Int} (h : L3 w wr v bs x y) (hb : Below wr.heap.size wr w') : L3 w w' v bs x y :=
  ⟨h.bel.trans (hb.mono h.bel.size), h.rv.below hb h.rv.lt, h.rb.below hb h.rb.lt, h.rr.below hb h.rr.lt⟩

set_option maxHeartbeats 8000000 in
set_option maxRecDepth 100000 in
theorem walk (p c h s : Int) (A1 : Option Addr) (c1 : Nat) (l : List Int) (A2 : Option Addr) (c2 : Nat) (m : List Int) (x y d : Int) (w : World)
    (_ : (Lit.int .i64 p).wf = true) (_ : (Lit.int .i64 c).wf = true) (_ : (Lit.int .i64 h).wf = true) (_ : (Lit.int .i64 s).wf = true) (r1 : RdS w w.heap.size 1 (fun x : Int => [Value.int .i64 x]) A1 l) (_ : ∀ x ∈ l, (Lit.int .i64 x).wf = true) (r2 : RdS w w.heap.size 1 (fun x : Int => [Value.int .i64 x]) A2 m) (_ : ∀ x ∈ m, (Lit.int .i64 x).wf = true) (_ : (Lit.int .i64 x).wf = true) (_ : (Lit.int .i64 y).wf = true) (_ : (Lit.int .i64 d).wf = true) :
    Calls Try.prog 3 #[.agg #[.int .i64 p, .int .i64 c, .int .i64 h, .int .i64 s], .agg #[.slice A1 l.length c1, .slice A2 m.length c2], .agg #[.int .i64 x, .int .i64 y], .int .i64 d] w fun e w' => e = .returned (.bool true) ∧ Below w.heap.size w w' := by
  obtain ⟨v, hv⟩ : ∃ v : Vr, v = ⟨p, c, h, s⟩ := ⟨_, rfl⟩
  obtain ⟨rfl, rfl, rfl, rfl⟩ : p = v.p ∧ c = v.c ∧ h = v.h ∧ s = v.s := by rw [hv]; exact ⟨rfl, rfl, rfl, rfl⟩
  have R1 := Lib.hid r1
  have R2 := Lib.hid r2
  have hm1 := r1.1
  have hm2 := r2.1
  obtain ⟨n1, hn1⟩ : ∃ n, l.length = n := ⟨_, rfl⟩
  obtain ⟨n2, hn2⟩ : ∃ n, m.length = n := ⟨_, rfl⟩
  have HN1 := Lib.hid hn1
  have HN2 := Lib.hid hn2
  have CZ := Lib.hid (fun (w9 : World) => szB A1 A2 n1 n2 c1 c2 1048576 w9 (by rw [← hn1]; exact hm1) (by rw [← hn2]; exact hm2) (by omega) (by omega))
  have CB := Lib.hid (fun (hs : n1 ≤ 1048576 ∧ n2 ≤ 1048576) (w9 : World) (h : Below w.heap.size w w9) => toB l m A1 A2 c1 c2 w.heap.size w9 h.size (r1.below h (Nat.le_refl _)) (r2.below h (Nat.le_refl _)) (by omega) (by omega))
  have CS := Lib.hid (fun (w9 : World) (B1 B2 : Option Addr) (d1 d2 : Nat) (k1 : OwnV 2 1 enI w9 All (.slice B1 n1 d1) l) (k2 : OwnV 2 1 enI w9 All (.slice B2 n2 d2) m) => luckX_s v (l, m) B1 B2 d1 d2 x y d w9 (Bd25.OwnV.rd_ k1) (Bd25.OwnV.rd_ k2) (Bd25.OwnV.none0 k1) (Bd25.OwnV.none0 k2))
  have CI := Lib.hid (fun (w9 : World) (B1 B2 : Option Addr) (d1 d2 : Nat) (k1 : OwnV 2 1 enI w9 All (.slice B1 n1 d1) l) (k2 : OwnV 2 1 enI w9 All (.slice B2 n2 d2) m) => luckX_i v (l, m) B1 B2 d1 d2 x y d w9 (Bd25.OwnV.rd_ k1) (Bd25.OwnV.rd_ k2) (Bd25.OwnV.none0 k1) (Bd25.OwnV.none0 k2))
  have CE := Lib.hid (fun (w9 : World) (B1 B2 B3 B4 : Option Addr) (d1 d2 d3 d4 : Nat) (k1 : OwnV 2 1 enI w9 All (.slice B1 n1 d1) l) (k2 : OwnV 2 1 enI w9 All (.slice B2 n2 d2) m) (k3 : OwnV 2 1 enI w9 All (.slice B3 n1 d3) l) (k4 : OwnV 2 1 enI w9 All (.slice B4 n2 d4) m) => eqB l m n1 n2 B1 B2 B3 B4 d1 d2 d3 d4 w9 hn1 hn2 (Bd25.OwnV.rd_ k1) (Bd25.OwnV.rd_ k2) (Bd25.OwnV.rd_ k3) (Bd25.OwnV.rd_ k4))
  obtain ⟨Rz, hRz⟩ : ∃ r, luckR v (l, m) x y d = r := ⟨_, rfl⟩
  rw [hRz] at CS CI
  obtain ⟨g1, g2⟩ := Rz
  simp only [hn1, hn2] at CS CI CB
  rw [hn1, hn2]
  clear hv hRz r1 r2 hm1 hm2 hn1 hn2
  go_enter Try.func3, Try.ntmps3
  go_upto_region 1 with (fail)
  refine wp_gen (fun W' => L3 w W' v [.slice A1 n1 c1, .slice A2 n2 c2] x y) ⟨by go_grown, ((RowB.new _ _ _).alloc _).alloc _, RowB.alloc (RowB.new' _ _ _ (by simp)) _, RowB.new' _ _ _ (by simp)⟩ ?_
  intro w1 K
  obtain ⟨z0, z1⟩ := K.rb.c2
  have hl2 := K.rb.lt
  go_wp2_with fail
  refine (CZ.out w1).mono ?_
  rintro e w2 ⟨⟨rz, rfl, hrz⟩, hb2⟩
  have K := K.below hb2
  clear z0 z1 hl2 hb2 CZ
  rcases hrz with hrz | ⟨hrz, hrz2⟩
  · go_wp2_with fail
    go_ret
    exact ⟨rfl, K.bel⟩
  have hrz' : ¬ rz < 0 := by omega
  have hsz : n1 ≤ 1048576 ∧ n2 ≤ 1048576 := by omega
  have CB := Lib.hid (CB.out hsz)
  have HK := Lib.hid K
  clear hrz hrz2 hsz K
  go_wp2_with fail
  refine region_rel [some 21, some 22, some 23, some 24, some 25, some 26, some 27, some 28, some 20, some 29, some 30, some 10, some 11] 13 (Pl [some (.agg #[.int .i64 v.p, .int .i64 v.c, .int .i64 v.h, .int .i64 v.s]), some (.agg #[.int .i64 v.p, .int .i64 v.c, .int .i64 v.h, .int .i64 v.s]), some (.agg #[.slice A1 n1 c1, .slice A2 n2 c2]), none, some (.agg #[.int .i64 x, .int .i64 y]), some (.agg #[.int .i64 x, .int .i64 y]), some (.int .i64 d), some (.tuple #[.int .i64 g1, .int .i64 g2]), some (.tuple #[.int .i64 g1, .int .i64 g2]), some (.int .i64 g1), some (.int .i64 g2), some (.int .i64 g1), some (.int .i64 g2)]) (fun L vals w' => LwF w2 l m n1 n2 (L 3) (vals 3) w') (by kernel_rfl) (by kernel_rfl) (by kernel_rfl) (by kernel_rfl) (by kernel_rfl) (by kernel_rfl) (by kernel_rfl) ?g0_1 ?gst_1 ?gfin_1
  case g0_1 => exact ⟨(Below.refl _ _).drew, fun h => absurd h (by decide)⟩
  case gst_1 =>
    refine RelFrom.run rfl (fun L vals A w9 hno hdl hcl hu hp h0 F K hK => ?_) ?_
    · have e4 : A.tmps[4]?.getD undef = .pointer (some ⟨w.heap.size, 0, none⟩) := h0 4 (fun j _ hj => absurd (List.mem_of_getElem? hj) (by decide))
      clear hu h0 hp
      have KK := HK.out.below F.bel
      have rq := KK.rv.c4
      have q0 := rq.1
      have q1 := rq.2.1
      have q2 := rq.2.2.1
      have q3 := rq.2.2.2
      have rz_ := KK.rb.c2
      have z0 := rz_.1
      have z1 := rz_.2
      have rr := KK.rr.c2
      have r0 := rr.1
      have r1 := rr.2
      clear KK rq rz_ rr
      go_simp
      exact hK.out _ w9 (Pl.fix rfl) (F.skip 0 _ (by decide))
    refine RelFrom.run rfl (fun L vals A w9 hno hdl hcl hu hp h0 F K hK => ?_) ?_
    · have e21 : A.tmps[21]?.getD undef = .agg #[.int .i64 v.p, .int .i64 v.c, .int .i64 v.h, .int .i64 v.s] := (hu 0 21 (by kernel_rfl) rfl).trans (hp 0 (by kernel_rfl) _ rfl)
      clear hu h0 hp
      have KK := HK.out.below F.bel
      have rq := KK.rv.c4
      have q0 := rq.1
      have q1 := rq.2.1
      have q2 := rq.2.2.1
      have q3 := rq.2.2.2
      have rz_ := KK.rb.c2
      have z0 := rz_.1
      have z1 := rz_.2
      have rr := KK.rr.c2
      have r0 := rr.1
      have r1 := rr.2
      clear KK rq rz_ rr
      go_simp
      refine (toV v _).mono ?_
      rintro e w6 ⟨rfl, hb6⟩
      exact hK.out _ w6 (Pl.fix rfl) ((F.below hb6).skip 1 _ (by decide))
    refine RelFrom.run rfl (fun L vals A w9 hno hdl hcl hu hp h0 F K hK => ?_) ?_
    · have e5 : A.tmps[5]?.getD undef = .pointer (some ⟨w.heap.size + 1, 0, none⟩) := h0 5 (fun j _ hj => absurd (List.mem_of_getElem? hj) (by decide))
      clear hu h0 hp
      have KK := HK.out.below F.bel
      have rq := KK.rv.c4
      have q0 := rq.1
      have q1 := rq.2.1
      have q2 := rq.2.2.1
      have q3 := rq.2.2.2
      have rz_ := KK.rb.c2
      have z0 := rz_.1
      have z1 := rz_.2
      have rr := KK.rr.c2
      have r0 := rr.1
      have r1 := rr.2
      clear KK rq rz_ rr
      go_simp
      exact hK.out _ w9 (Pl.fix rfl) (F.skip 2 _ (by decide))
    refine RelFrom.run rfl (fun L vals A w9 hno hdl hcl hu hp h0 F K hK => ?_) ?_
    · have e23 : A.tmps[23]?.getD undef = .agg #[.slice A1 n1 c1, .slice A2 n2 c2] := (hu 2 23 (by kernel_rfl) rfl).trans (hp 2 (by kernel_rfl) _ rfl)
      clear hu h0 hp
      have KK := HK.out.below F.bel
      have rq := KK.rv.c4
      have q0 := rq.1
      have q1 := rq.2.1
      have q2 := rq.2.2.1
      have q3 := rq.2.2.2
      have rz_ := KK.rb.c2
      have z0 := rz_.1
      have z1 := rz_.2
      have rr := KK.rr.c2
      have r0 := rr.1
      have r1 := rr.2
      clear KK rq rz_ rr
      go_simp
      refine (CB.out w9 (HK.out.below F.bel).bel).mono ?_
      rintro e w6 ⟨B1, d1, B2, d2, rfl, h1, h2, -, hb6⟩
      simp only [HN1.out, HN2.out] at h1 h2 ⊢
      exact hK.out _ w6 (Pl.any rfl) (by simpa [upd] using F.made hb6 h1 h2)
    refine RelFrom.run rfl (fun L vals A w9 hno hdl hcl hu hp h0 F K hK => ?_) ?_
    · have e6 : A.tmps[6]?.getD undef = .pointer (some ⟨w.heap.size + 2, 0, none⟩) := h0 6 (fun j _ hj => absurd (List.mem_of_getElem? hj) (by decide))
      clear hu h0 hp
      have KK := HK.out.below F.bel
      have rq := KK.rv.c4
      have q0 := rq.1
      have q1 := rq.2.1
      have q2 := rq.2.2.1
      have q3 := rq.2.2.2
      have rz_ := KK.rb.c2
      have z0 := rz_.1
      have z1 := rz_.2
      have rr := KK.rr.c2
      have r0 := rr.1
      have r1 := rr.2
      clear KK rq rz_ rr
      go_simp
      exact hK.out _ w9 (Pl.fix rfl) (F.skip 4 _ (by decide))
    refine RelFrom.run rfl (fun L vals A w9 hno hdl hcl hu hp h0 F K hK => ?_) ?_
    · have e25 : A.tmps[25]?.getD undef = .agg #[.int .i64 x, .int .i64 y] := (hu 4 25 (by kernel_rfl) rfl).trans (hp 4 (by kernel_rfl) _ rfl)
      clear hu h0 hp
      have KK := HK.out.below F.bel
      have rq := KK.rv.c4
      have q0 := rq.1
      have q1 := rq.2.1
      have q2 := rq.2.2.1
      have q3 := rq.2.2.2
      have rz_ := KK.rb.c2
      have z0 := rz_.1
      have z1 := rz_.2
      have rr := KK.rr.c2
      have r0 := rr.1
      have r1 := rr.2
      clear KK rq rz_ rr
      go_simp
      refine (toR x y _).mono ?_
      rintro e w6 ⟨rfl, hb6⟩
      exact hK.out _ w6 (Pl.fix rfl) ((F.below hb6).skip 5 _ (by decide))
    refine RelFrom.run rfl (fun L vals A w9 hno hdl hcl hu hp h0 F K hK => ?_) ?_
    · have e3 : A.tmps[3]?.getD undef = .int .i64 d := h0 3 (fun j _ hj => absurd (List.mem_of_getElem? hj) (by decide))
      clear hu h0 hp
      have KK := HK.out.below F.bel
      have rq := KK.rv.c4
      have q0 := rq.1
      have q1 := rq.2.1
      have q2 := rq.2.2.1
      have q3 := rq.2.2.2
      have rz_ := KK.rb.c2
      have z0 := rz_.1
      have z1 := rz_.2
      have rr := KK.rr.c2
      have r0 := rr.1
      have r1 := rr.2
      clear KK rq rz_ rr
      go_simp
      exact hK.out _ w9 (Pl.fix rfl) (F.skip 6 _ (by decide))
    refine RelFrom.run rfl (fun L vals A w9 hno hdl hcl hu hp h0 F K hK => ?_) ?_
    · have e22 : A.tmps[22]?.getD undef = .agg #[.int .i64 v.p, .int .i64 v.c, .int .i64 v.h, .int .i64 v.s] := (hu 1 22 (by kernel_rfl) rfl).trans (hp 1 (by kernel_rfl) _ rfl)
      have e24 : A.tmps[24]?.getD undef = vals 3 := hu 3 24 (by kernel_rfl) rfl
      have e26 : A.tmps[26]?.getD undef = .agg #[.int .i64 x, .int .i64 y] := (hu 5 26 (by kernel_rfl) rfl).trans (hp 5 (by kernel_rfl) _ rfl)
      have e27 : A.tmps[27]?.getD undef = .int .i64 d := (hu 6 27 (by kernel_rfl) rfl).trans (hp 6 (by kernel_rfl) _ rfl)
      clear hu h0 hp
      refine (F.f (hdl 3 (by kernel_rfl))).elim fun B1 q => ?_
      refine q.elim fun d1 q => ?_
      refine q.elim fun B2 q => ?_
      refine q.elim fun d2 q => ?_
      have eb := e24.trans q.1
      clear e24
      go_simp
      refine (CS.out w9 B1 B2 d1 d2 q.2.1 q.2.2).mono ?_
      rintro e w6 ⟨rfl, hb6⟩
      exact hK.out _ w6 (Pl.fix rfl) ((F.below hb6).skip 7 _ (by decide))
    refine RelFrom.run rfl (fun L vals A w9 hno hdl hcl hu hp h0 F K hK => ?_) ?_
    · have e28 : A.tmps[28]?.getD undef = .tuple #[.int .i64 g1, .int .i64 g2] := (hu 7 28 (by kernel_rfl) rfl).trans (hp 7 (by kernel_rfl) _ rfl)
      clear hu h0 hp
      have KK := HK.out.below F.bel
      have rq := KK.rv.c4
      have q0 := rq.1
      have q1 := rq.2.1
      have q2 := rq.2.2.1
      have q3 := rq.2.2.2
      have rz_ := KK.rb.c2
      have z0 := rz_.1
      have z1 := rz_.2
      have rr := KK.rr.c2
      have r0 := rr.1
      have r1 := rr.2
      clear KK rq rz_ rr
      go_simp
      exact hK.out _ w9 (Pl.fix rfl) (F.skip 8 _ (by decide))
    refine RelFrom.run rfl (fun L vals A w9 hno hdl hcl hu hp h0 F K hK => ?_) ?_
    · have e20 : A.tmps[20]?.getD undef = .tuple #[.int .i64 g1, .int .i64 g2] := (hu 8 20 (by kernel_rfl) rfl).trans (hp 8 (by kernel_rfl) _ rfl)
      clear hu h0 hp
      have KK := HK.out.below F.bel
      have rq := KK.rv.c4
      have q0 := rq.1
      have q1 := rq.2.1
      have q2 := rq.2.2.1
      have q3 := rq.2.2.2
      have rz_ := KK.rb.c2
      have z0 := rz_.1
      have z1 := rz_.2
      have rr := KK.rr.c2
      have r0 := rr.1
      have r1 := rr.2
      clear KK rq rz_ rr
      go_simp
      exact hK.out _ w9 (Pl.fix rfl) (F.skip 9 _ (by decide))
    refine RelFrom.run rfl (fun L vals A w9 hno hdl hcl hu hp h0 F K hK => ?_) ?_
    · have e20 : A.tmps[20]?.getD undef = .tuple #[.int .i64 g1, .int .i64 g2] := (hu 8 20 (by kernel_rfl) rfl).trans (hp 8 (by kernel_rfl) _ rfl)
      clear hu h0 hp
      have KK := HK.out.below F.bel
      have rq := KK.rv.c4
      have q0 := rq.1
      have q1 := rq.2.1
      have q2 := rq.2.2.1
      have q3 := rq.2.2.2
      have rz_ := KK.rb.c2
      have z0 := rz_.1
      have z1 := rz_.2
      have rr := KK.rr.c2
      have r0 := rr.1
      have r1 := rr.2
      clear KK rq rz_ rr
      go_simp
      exact hK.out _ w9 (Pl.fix rfl) (F.skip 10 _ (by decide))
    refine RelFrom.run rfl (fun L vals A w9 hno hdl hcl hu hp h0 F K hK => ?_) ?_
    · have e29 : A.tmps[29]?.getD undef = .int .i64 g1 := (hu 9 29 (by kernel_rfl) rfl).trans (hp 9 (by kernel_rfl) _ rfl)
      clear hu h0 hp
      have KK := HK.out.below F.bel
      have rq := KK.rv.c4
      have q0 := rq.1
      have q1 := rq.2.1
      have q2 := rq.2.2.1
      have q3 := rq.2.2.2
      have rz_ := KK.rb.c2
      have z0 := rz_.1
      have z1 := rz_.2
      have rr := KK.rr.c2
      have r0 := rr.1
      have r1 := rr.2
      clear KK rq rz_ rr
      go_simp
      exact hK.out _ w9 (Pl.fix rfl) (F.skip 11 _ (by decide))
    refine RelFrom.run rfl (fun L vals A w9 hno hdl hcl hu hp h0 F K hK => ?_) ?_
    · have e30 : A.tmps[30]?.getD undef = .int .i64 g2 := (hu 10 30 (by kernel_rfl) rfl).trans (hp 10 (by kernel_rfl) _ rfl)
      clear hu h0 hp
      have KK := HK.out.below F.bel
      have rq := KK.rv.c4
      have q0 := rq.1
      have q1 := rq.2.1
      have q2 := rq.2.2.1
      have q3 := rq.2.2.2
      have rz_ := KK.rb.c2
      have z0 := rz_.1
      have z1 := rz_.2
      have rr := KK.rr.c2
      have r0 := rr.1
      have r1 := rr.2
      clear KK rq rz_ rr
      go_simp
      exact hK.out _ w9 (Pl.fix rfl) (F.skip 12 _ (by decide))
    exact RelFrom.nil (by decide)
  case gfin_1 =>
    intro vals w9 hp F
    simp only [Fr, Act.put, List.setIfInBounds_toArray, List.set_cons_zero, List.set_cons_succ, Nat.reduceAdd]
    have K := HK.out.below F.bel
    have h11 : vals 11 = .int .i64 g1 := hp 11 (by decide) _ rfl
    have h12 : vals 12 = .int .i64 g2 := hp 12 (by decide) _ rfl
    rw [h11, h12]
    clear F hp h11 h12 HK
    obtain ⟨z0, z1⟩ := K.rb.c2
    have hl2 := K.rb.lt
    go_wp2_with fail
    refine (CB.out w9 K.bel).mono ?_
    rintro e w3 ⟨B1, d1, B2, d2, rfl, h1, h2, -, hb3⟩
    simp only [HN1.out, HN2.out] at h1 h2 ⊢
    have o1 := own_all h1 (Nat.le_refl _)
    have o2 := own_all h2 (Nat.le_refl _)
    have K := K.below hb3
    clear z0 z1 hl2 hb3 h1 h2 CS
    go_upto_region 7 with (fail)
    refine wp_gen (fun W' => Below w3.heap.size w3 W' ∧ RowB W' w3.heap.size 34 [.slice B1 n1 d1, .slice B2 n2 d2]) ?_ ?_
    · exact ⟨(Below.refl _ _).alloc (Nat.le_refl _) _, RowB.new _ _ _⟩
    rintro w4 ⟨hb4, rx⟩
    obtain ⟨gx, hgx⟩ : ∃ g, w3.heap.size = g := ⟨_, rfl⟩
    rw [hgx] at rx ⊢
    have K := K.below hb4
    have o1 := o1.keep (.below hb4)
    have o2 := o2.keep (.below hb4)
    have HK := Lib.hid K
    have RX := Lib.hid rx
    have O1 := Lib.hid o1
    have O2 := Lib.hid o2
    clear K rx o1 o2 hb4 hgx
    refine region_rel [some 34, some 35, some 36, some 37, some 38, some 39, some 40, some 33, some 41, some 42, some 13, some 14] 12 (Pl [some (.agg #[.int .i64 v.p, .int .i64 v.c, .int .i64 v.h, .int .i64 v.s]), some (.agg #[.int .i64 v.p, .int .i64 v.c, .int .i64 v.h, .int .i64 v.s]), some (.agg #[.slice B1 n1 d1, .slice B2 n2 d2]), some (.agg #[.int .i64 x, .int .i64 y]), some (.agg #[.int .i64 x, .int .i64 y]), some (.int .i64 d), some (.tuple #[.int .i64 g1, .int .i64 g2]), some (.tuple #[.int .i64 g1, .int .i64 g2]), some (.int .i64 g1), some (.int .i64 g2), some (.int .i64 g1), some (.int .i64 g2)]) (fun L vals w' => Below w4.heap.size w4 w') (by kernel_rfl) (by kernel_rfl) (by kernel_rfl) (by kernel_rfl) (by kernel_rfl) (by kernel_rfl) (by kernel_rfl) ?g0_2 ?gst_2 ?gfin_2
    case g0_2 => exact (Below.refl _ _).drew
    case gst_2 =>
      refine RelFrom.run rfl (fun L vals A w9 hno hdl hcl hu hp h0 F K hK => ?_) ?_
      · have e4 : A.tmps[4]?.getD undef = .pointer (some ⟨w.heap.size, 0, none⟩) := h0 4 (fun j _ hj => absurd (List.mem_of_getElem? hj) (by decide))
        clear hu h0 hp
        have KK := HK.out.below F
        have rq := KK.rv.c4
        have q0 := rq.1
        have q1 := rq.2.1
        have q2 := rq.2.2.1
        have q3 := rq.2.2.2
        have rz_ := KK.rb.c2
        have z0 := rz_.1
        have z1 := rz_.2
        have rr := KK.rr.c2
        have r0 := rr.1
        have r1 := rr.2
        clear KK rq rz_ rr
        have rx9 := (RX.out.below F RX.out.lt).c2
        have x0 := rx9.1
        have x1 := rx9.2
        clear rx9
        go_simp
        exact hK.out _ w9 (Pl.fix rfl) (F)
      refine RelFrom.run rfl (fun L vals A w9 hno hdl hcl hu hp h0 F K hK => ?_) ?_
      · have e34 : A.tmps[34]?.getD undef = .agg #[.int .i64 v.p, .int .i64 v.c, .int .i64 v.h, .int .i64 v.s] := (hu 0 34 (by kernel_rfl) rfl).trans (hp 0 (by kernel_rfl) _ rfl)
        clear hu h0 hp
        have KK := HK.out.below F
        have rq := KK.rv.c4
        have q0 := rq.1
        have q1 := rq.2.1
        have q2 := rq.2.2.1
        have q3 := rq.2.2.2
        have rz_ := KK.rb.c2
        have z0 := rz_.1
        have z1 := rz_.2
        have rr := KK.rr.c2
        have r0 := rr.1
        have r1 := rr.2
        clear KK rq rz_ rr
        go_simp
        refine (toV v _).mono ?_
        rintro e w6 ⟨rfl, hb6⟩
        exact hK.out _ w6 (Pl.fix rfl) (F.trans (hb6.mono F.size))
      refine RelFrom.run rfl (fun L vals A w9 hno hdl hcl hu hp h0 F K hK => ?_) ?_
      · have e12 : A.tmps[12]?.getD undef = .pointer (some ⟨gx, 0, none⟩) := h0 12 (fun j _ hj => absurd (List.mem_of_getElem? hj) (by decide))
        clear hu h0 hp
        have KK := HK.out.below F
        have rq := KK.rv.c4
        have q0 := rq.1
        have q1 := rq.2.1
        have q2 := rq.2.2.1
        have q3 := rq.2.2.2
        have rz_ := KK.rb.c2
        have z0 := rz_.1
        have z1 := rz_.2
        have rr := KK.rr.c2
        have r0 := rr.1
        have r1 := rr.2
        clear KK rq rz_ rr
        have rx9 := (RX.out.below F RX.out.lt).c2
        have x0 := rx9.1
        have x1 := rx9.2
        clear rx9
        go_simp
        exact hK.out _ w9 (Pl.fix rfl) (F)
      refine RelFrom.run rfl (fun L vals A w9 hno hdl hcl hu hp h0 F K hK => ?_) ?_
      · have e6 : A.tmps[6]?.getD undef = .pointer (some ⟨w.heap.size + 2, 0, none⟩) := h0 6 (fun j _ hj => absurd (List.mem_of_getElem? hj) (by decide))
        clear hu h0 hp
        have KK := HK.out.below F
        have rq := KK.rv.c4
        have q0 := rq.1
        have q1 := rq.2.1
        have q2 := rq.2.2.1
        have q3 := rq.2.2.2
        have rz_ := KK.rb.c2
        have z0 := rz_.1
        have z1 := rz_.2
        have rr := KK.rr.c2
        have r0 := rr.1
        have r1 := rr.2
        clear KK rq rz_ rr
        have rx9 := (RX.out.below F RX.out.lt).c2
        have x0 := rx9.1
        have x1 := rx9.2
        clear rx9
        go_simp
        exact hK.out _ w9 (Pl.fix rfl) (F)
      refine RelFrom.run rfl (fun L vals A w9 hno hdl hcl hu hp h0 F K hK => ?_) ?_
      · have e37 : A.tmps[37]?.getD undef = .agg #[.int .i64 x, .int .i64 y] := (hu 3 37 (by kernel_rfl) rfl).trans (hp 3 (by kernel_rfl) _ rfl)
        clear hu h0 hp
        have KK := HK.out.below F
        have rq := KK.rv.c4
        have q0 := rq.1
        have q1 := rq.2.1
        have q2 := rq.2.2.1
        have q3 := rq.2.2.2
        have rz_ := KK.rb.c2
        have z0 := rz_.1
        have z1 := rz_.2
        have rr := KK.rr.c2
        have r0 := rr.1
        have r1 := rr.2
        clear KK rq rz_ rr
        go_simp
        refine (toR x y _).mono ?_
        rintro e w6 ⟨rfl, hb6⟩
        exact hK.out _ w6 (Pl.fix rfl) (F.trans (hb6.mono F.size))
      refine RelFrom.run rfl (fun L vals A w9 hno hdl hcl hu hp h0 F K hK => ?_) ?_
      · have e3 : A.tmps[3]?.getD undef = .int .i64 d := h0 3 (fun j _ hj => absurd (List.mem_of_getElem? hj) (by decide))
        clear hu h0 hp
        have KK := HK.out.below F
        have rq := KK.rv.c4
        have q0 := rq.1
        have q1 := rq.2.1
        have q2 := rq.2.2.1
        have q3 := rq.2.2.2
        have rz_ := KK.rb.c2
        have z0 := rz_.1
        have z1 := rz_.2
        have rr := KK.rr.c2
        have r0 := rr.1
        have r1 := rr.2
        clear KK rq rz_ rr
        have rx9 := (RX.out.below F RX.out.lt).c2
        have x0 := rx9.1
        have x1 := rx9.2
        clear rx9
        go_simp
        exact hK.out _ w9 (Pl.fix rfl) (F)
      refine RelFrom.run rfl (fun L vals A w9 hno hdl hcl hu hp h0 F K hK => ?_) ?_
      · have e35 : A.tmps[35]?.getD undef = .agg #[.int .i64 v.p, .int .i64 v.c, .int .i64 v.h, .int .i64 v.s] := (hu 1 35 (by kernel_rfl) rfl).trans (hp 1 (by kernel_rfl) _ rfl)
        have e36 : A.tmps[36]?.getD undef = .agg #[.slice B1 n1 d1, .slice B2 n2 d2] := (hu 2 36 (by kernel_rfl) rfl).trans (hp 2 (by kernel_rfl) _ rfl)
        have e38 : A.tmps[38]?.getD undef = .agg #[.int .i64 x, .int .i64 y] := (hu 4 38 (by kernel_rfl) rfl).trans (hp 4 (by kernel_rfl) _ rfl)
        have e39 : A.tmps[39]?.getD undef = .int .i64 d := (hu 5 39 (by kernel_rfl) rfl).trans (hp 5 (by kernel_rfl) _ rfl)
        clear hu h0 hp
        go_simp
        refine (CI.out w9 B1 B2 d1 d2 (O1.out.keep (.below F)) (O2.out.keep (.below F))).mono ?_
        rintro e w6 ⟨rfl, hb6⟩
        exact hK.out _ w6 (Pl.fix rfl) (F.trans (hb6.mono F.size))
      refine RelFrom.run rfl (fun L vals A w9 hno hdl hcl hu hp h0 F K hK => ?_) ?_
      · have e40 : A.tmps[40]?.getD undef = .tuple #[.int .i64 g1, .int .i64 g2] := (hu 6 40 (by kernel_rfl) rfl).trans (hp 6 (by kernel_rfl) _ rfl)
        clear hu h0 hp
        have KK := HK.out.below F
        have rq := KK.rv.c4
        have q0 := rq.1
        have q1 := rq.2.1
        have q2 := rq.2.2.1
        have q3 := rq.2.2.2
        have rz_ := KK.rb.c2
        have z0 := rz_.1
        have z1 := rz_.2
        have rr := KK.rr.c2
        have r0 := rr.1
        have r1 := rr.2
        clear KK rq rz_ rr
        have rx9 := (RX.out.below F RX.out.lt).c2
        have x0 := rx9.1
        have x1 := rx9.2
        clear rx9
        go_simp
        exact hK.out _ w9 (Pl.fix rfl) (F)
      refine RelFrom.run rfl (fun L vals A w9 hno hdl hcl hu hp h0 F K hK => ?_) ?_
      · have e33 : A.tmps[33]?.getD undef = .tuple #[.int .i64 g1, .int .i64 g2] := (hu 7 33 (by kernel_rfl) rfl).trans (hp 7 (by kernel_rfl) _ rfl)
        clear hu h0 hp
        have KK := HK.out.below F
        have rq := KK.rv.c4
        have q0 := rq.1
        have q1 := rq.2.1
        have q2 := rq.2.2.1
        have q3 := rq.2.2.2
        have rz_ := KK.rb.c2
        have z0 := rz_.1
        have z1 := rz_.2
        have rr := KK.rr.c2
        have r0 := rr.1
        have r1 := rr.2
        clear KK rq rz_ rr
        have rx9 := (RX.out.below F RX.out.lt).c2
        have x0 := rx9.1
        have x1 := rx9.2
        clear rx9
        go_simp
        exact hK.out _ w9 (Pl.fix rfl) (F)
      refine RelFrom.run rfl (fun L vals A w9 hno hdl hcl hu hp h0 F K hK => ?_) ?_
      · have e33 : A.tmps[33]?.getD undef = .tuple #[.int .i64 g1, .int .i64 g2] := (hu 7 33 (by kernel_rfl) rfl).trans (hp 7 (by kernel_rfl) _ rfl)
        clear hu h0 hp
        have KK := HK.out.below F
        have rq := KK.rv.c4
        have q0 := rq.1
        have q1 := rq.2.1
        have q2 := rq.2.2.1
        have q3 := rq.2.2.2
        have rz_ := KK.rb.c2
        have z0 := rz_.1
        have z1 := rz_.2
        have rr := KK.rr.c2
        have r0 := rr.1
        have r1 := rr.2
        clear KK rq rz_ rr
        have rx9 := (RX.out.below F RX.out.lt).c2
        have x0 := rx9.1
        have x1 := rx9.2
        clear rx9
        go_simp
        exact hK.out _ w9 (Pl.fix rfl) (F)
      refine RelFrom.run rfl (fun L vals A w9 hno hdl hcl hu hp h0 F K hK => ?_) ?_
      · have e41 : A.tmps[41]?.getD undef = .int .i64 g1 := (hu 8 41 (by kernel_rfl) rfl).trans (hp 8 (by kernel_rfl) _ rfl)
        clear hu h0 hp
        have KK := HK.out.below F
        have rq := KK.rv.c4
        have q0 := rq.1
        have q1 := rq.2.1
        have q2 := rq.2.2.1
        have q3 := rq.2.2.2
        have rz_ := KK.rb.c2
        have z0 := rz_.1
        have z1 := rz_.2
        have rr := KK.rr.c2
        have r0 := rr.1
        have r1 := rr.2
        clear KK rq rz_ rr
        have rx9 := (RX.out.below F RX.out.lt).c2
        have x0 := rx9.1
        have x1 := rx9.2
        clear rx9
        go_simp
        exact hK.out _ w9 (Pl.fix rfl) (F)
      refine RelFrom.run rfl (fun L vals A w9 hno hdl hcl hu hp h0 F K hK => ?_) ?_
      · have e42 : A.tmps[42]?.getD undef = .int .i64 g2 := (hu 9 42 (by kernel_rfl) rfl).trans (hp 9 (by kernel_rfl) _ rfl)
        clear hu h0 hp
        have KK := HK.out.below F
        have rq := KK.rv.c4
        have q0 := rq.1
        have q1 := rq.2.1
        have q2 := rq.2.2.1
        have q3 := rq.2.2.2
        have rz_ := KK.rb.c2
        have z0 := rz_.1
        have z1 := rz_.2
        have rr := KK.rr.c2
        have r0 := rr.1
        have r1 := rr.2
        clear KK rq rz_ rr
        have rx9 := (RX.out.below F RX.out.lt).c2
        have x0 := rx9.1
        have x1 := rx9.2
        clear rx9
        go_simp
        exact hK.out _ w9 (Pl.fix rfl) (F)
      exact RelFrom.nil (by decide)
    case gfin_2 =>
      intro vals w9 hp F
      simp only [Fr, Act.put, List.setIfInBounds_toArray, List.set_cons_zero, List.set_cons_succ, Nat.reduceAdd]
      have K := HK.out.below F
      have rx := RX.out.below F RX.out.lt
      have o1 := O1.out.keep (.below F)
      have o2 := O2.out.keep (.below F)
      have h10 : vals 10 = .int .i64 g1 := hp 10 (by decide) _ rfl
      have h11 : vals 11 = .int .i64 g2 := hp 11 (by decide) _ rfl
      rw [h10, h11]
      clear F hp h10 h11 HK RX O1 O2 CI
      have e1 : (g1 != g1) = false := by simp
      have e2 : (g2 != g2) = false := by simp
      have HK := Lib.hid K
      have RX := Lib.hid rx
      have O1 := Lib.hid o1
      have O2 := Lib.hid o2
      clear K rx o1 o2
      go_wp2_with fail
      refine region_rel [some 51, some 52, some 53, some 54, some 55] 5 (Pl [some (.agg #[.slice B1 n1 d1, .slice B2 n2 d2]), some (.agg #[.slice A1 n1 c1, .slice A2 n2 c2]), none, some (.bool true), some (.bool false)]) (fun L vals w' => LwF w9 l m n1 n2 (L 2) (vals 2) w') (by kernel_rfl) (by kernel_rfl) (by kernel_rfl) (by kernel_rfl) (by kernel_rfl) (by kernel_rfl) (by kernel_rfl) ?g0_3 ?gst_3 ?gfin_3
      case g0_3 => exact ⟨(Below.refl _ _).drew, fun h => absurd h (by decide)⟩
      case gst_3 =>
        refine RelFrom.run rfl (fun L vals A w9 hno hdl hcl hu hp h0 F K hK => ?_) ?_
        · have e12 : A.tmps[12]?.getD undef = .pointer (some ⟨gx, 0, none⟩) := h0 12 (fun j _ hj => absurd (List.mem_of_getElem? hj) (by decide))
          clear hu h0 hp
          have KK := HK.out.below F.bel
          have rq := KK.rv.c4
          have q0 := rq.1
          have q1 := rq.2.1
          have q2 := rq.2.2.1
          have q3 := rq.2.2.2
          have rz_ := KK.rb.c2
          have z0 := rz_.1
          have z1 := rz_.2
          have rr := KK.rr.c2
          have r0 := rr.1
          have r1 := rr.2
          clear KK rq rz_ rr
          have rx9 := (RX.out.below F.bel RX.out.lt).c2
          have x0 := rx9.1
          have x1 := rx9.2
          clear rx9
          go_simp
          exact hK.out _ w9 (Pl.fix rfl) (F.skip 0 _ (by decide))
        refine RelFrom.run rfl (fun L vals A w9 hno hdl hcl hu hp h0 F K hK => ?_) ?_
        · have e5 : A.tmps[5]?.getD undef = .pointer (some ⟨w.heap.size + 1, 0, none⟩) := h0 5 (fun j _ hj => absurd (List.mem_of_getElem? hj) (by decide))
          clear hu h0 hp
          have KK := HK.out.below F.bel
          have rq := KK.rv.c4
          have q0 := rq.1
          have q1 := rq.2.1
          have q2 := rq.2.2.1
          have q3 := rq.2.2.2
          have rz_ := KK.rb.c2
          have z0 := rz_.1
          have z1 := rz_.2
          have rr := KK.rr.c2
          have r0 := rr.1
          have r1 := rr.2
          clear KK rq rz_ rr
          have rx9 := (RX.out.below F.bel RX.out.lt).c2
          have x0 := rx9.1
          have x1 := rx9.2
          clear rx9
          go_simp
          exact hK.out _ w9 (Pl.fix rfl) (F.skip 1 _ (by decide))
        refine RelFrom.run rfl (fun L vals A w9 hno hdl hcl hu hp h0 F K hK => ?_) ?_
        · have e52 : A.tmps[52]?.getD undef = .agg #[.slice A1 n1 c1, .slice A2 n2 c2] := (hu 1 52 (by kernel_rfl) rfl).trans (hp 1 (by kernel_rfl) _ rfl)
          clear hu h0 hp
          have KK := HK.out.below F.bel
          have rq := KK.rv.c4
          have q0 := rq.1
          have q1 := rq.2.1
          have q2 := rq.2.2.1
          have q3 := rq.2.2.2
          have rz_ := KK.rb.c2
          have z0 := rz_.1
          have z1 := rz_.2
          have rr := KK.rr.c2
          have r0 := rr.1
          have r1 := rr.2
          clear KK rq rz_ rr
          go_simp
          refine (CB.out w9 (HK.out.below F.bel).bel).mono ?_
          rintro e w6 ⟨B1, d1, B2, d2, rfl, h1, h2, -, hb6⟩
          simp only [HN1.out, HN2.out] at h1 h2 ⊢
          exact hK.out _ w6 (Pl.any rfl) (by simpa [upd] using F.made hb6 h1 h2)
        refine RelFrom.run rfl (fun L vals A w9 hno hdl hcl hu hp h0 F K hK => ?_) ?_
        · have e51 : A.tmps[51]?.getD undef = .agg #[.slice B1 n1 d1, .slice B2 n2 d2] := (hu 0 51 (by kernel_rfl) rfl).trans (hp 0 (by kernel_rfl) _ rfl)
          have e53 : A.tmps[53]?.getD undef = vals 2 := hu 2 53 (by kernel_rfl) rfl
          clear hu h0 hp
          refine (F.f (hdl 2 (by kernel_rfl))).elim fun B3 q => ?_
          refine q.elim fun d3 q => ?_
          refine q.elim fun B4 q => ?_
          refine q.elim fun d4 q => ?_
          have eb := e53.trans q.1
          clear e53
          go_simp
          refine (CE.out w9 B1 B2 B3 B4 d1 d2 d3 d4 (O1.out.keep (.below F.bel)) (O2.out.keep (.below F.bel)) q.2.1 q.2.2).mono ?_
          rintro e w6 ⟨rfl, hb6⟩
          exact hK.out _ w6 (Pl.fix rfl) ((F.below hb6).skip 3 _ (by decide))
        refine RelFrom.run rfl (fun L vals A w9 hno hdl hcl hu hp h0 F K hK => ?_) ?_
        · have e54 : A.tmps[54]?.getD undef = .bool true := (hu 3 54 (by kernel_rfl) rfl).trans (hp 3 (by kernel_rfl) _ rfl)
          clear hu h0 hp
          have KK := HK.out.below F.bel
          have rq := KK.rv.c4
          have q0 := rq.1
          have q1 := rq.2.1
          have q2 := rq.2.2.1
          have q3 := rq.2.2.2
          have rz_ := KK.rb.c2
          have z0 := rz_.1
          have z1 := rz_.2
          have rr := KK.rr.c2
          have r0 := rr.1
          have r1 := rr.2
          clear KK rq rz_ rr
          have rx9 := (RX.out.below F.bel RX.out.lt).c2
          have x0 := rx9.1
          have x1 := rx9.2
          clear rx9
          go_simp
          exact hK.out _ w9 (Pl.fix rfl) (F.skip 4 _ (by decide))
        exact RelFrom.nil (by decide)
      case gfin_3 =>
        intro vals w9 hp F
        simp only [Fr, Act.put, List.setIfInBounds_toArray, List.set_cons_zero, List.set_cons_succ, Nat.reduceAdd]
        have bel := (HK.out.below F.bel).bel
        have h4 : vals 4 = .bool false := hp 4 (by decide) _ rfl
        rw [h4]
        clear F hp h4
        go_wp2_with fail
        go_ret
        exact ⟨rfl, bel⟩
end Go.Proofs.Ytfgkkmhafdbicaa.LuckLaw
