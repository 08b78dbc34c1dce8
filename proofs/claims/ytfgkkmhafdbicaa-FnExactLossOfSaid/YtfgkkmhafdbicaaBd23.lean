/-
  The number of dice that are used: of the reference (l05Used). Conditions: each theorem's own.
-/
import Derived.Test.YtfgkkmhafdbicaaBd22
set_option linter.unusedVariables false
set_option linter.unusedSimpArgs false
namespace Go.Proofs.Ytfgkkmhafdbicaa.Bd23
open Go.ChangeShapes Go.WideShapes Go.ChangeAt Go.RowKit Base Ints Own Clone RelG PlP Bd1 Bd4 Bd5 Bd6 Bd7 Bd7S Bd8 Bd9 Bd11 RegInv RegF RegG Bd16 Bd17 Bd18 Bd19 Bd20 Bd21 Bd22

/-- The three results of l05Longest are taken apart. -/
structure UsF (w1 : World) (X : List Pl) (kv fv : Value) (p6 p7 p8 p11 : Prop) (v6 v7 v8 v11 : Value) (w' : World) : Prop where
  bel : Below w1.heap.size w1 w'
  f6 : p6 → ∃ vv, v6 = .tuple #[vv, kv, fv] ∧ OwnG RelP w' w1.heap.size w'.heap.size 65 3 enP vv X
  f7 : p7 → v7 = v6
  f8 : p8 → OwnG RelP w' w1.heap.size w'.heap.size 65 3 enP v8 X
  f11 : p11 → v11 = v8
section
variable {w1 w' w'' : World} {X : List Pl} {kv fv : Value} {p6 p7 p8 p11 : Prop} {v6 v7 v8 v11 v' : Value}
theorem UsF.skip {L : Nat → Prop} {vals : Nat → Value} (F : UsF w1 X kv fv (L 6) (L 7) (L 8) (L 11) (vals 6) (vals 7) (vals 8) (vals 11) w') (k : Nat) (x : Value) (h6 : 6 ≠ k) (h7 : 7 ≠ k) (h8 : 8 ≠ k) (h11 : 11 ≠ k) :
    UsF w1 X kv fv (6 = k ∨ L 6) (7 = k ∨ L 7) (8 = k ∨ L 8) (11 = k ∨ L 11) (upd vals k x 6) (upd vals k x 7) (upd vals k x 8) (upd vals k x 11) w' := by
  rw [or_ne h6, or_ne h7, or_ne h8, or_ne h11, upd_ne h6, upd_ne h7, upd_ne h8, upd_ne h11]; exact F
theorem UsF.s6 (F : UsF w1 X kv fv p6 p7 p8 p11 v6 v7 v8 v11 w') (n7 : ¬ p7) (n8 : ¬ p8) (n11 : ¬ p11) (hb : Below w'.heap.size w' w'') (ho : OwnG RelP w'' w'.heap.size w''.heap.size 65 3 enP v' X) : UsF w1 X kv fv True p7 p8 p11 (.tuple #[v', kv, fv]) v7 v8 v11 w'' :=
  ⟨F.bel.trans (hb.mono F.bel.size), fun _ => ⟨_, rfl, ho.less F.bel.size⟩, fun h => absurd h n7, fun h => absurd h n8, fun h => absurd h n11⟩
theorem UsF.s7 (F : UsF w1 X kv fv p6 p7 p8 p11 v6 v7 v8 v11 w') : UsF w1 X kv fv p6 True p8 p11 v6 v6 v8 v11 w' := ⟨F.bel, F.f6, fun _ => rfl, F.f8, F.f11⟩
theorem UsF.s8 (F : UsF w1 X kv fv p6 p7 p8 p11 v6 v7 v8 v11 w') (n11 : ¬ p11) (ho : OwnG RelP w' w1.heap.size w'.heap.size 65 3 enP v' X) : UsF w1 X kv fv p6 p7 True p11 v6 v7 v' v11 w' := ⟨F.bel, F.f6, F.f7, fun _ => ho, fun h => absurd h n11⟩
theorem UsF.s11 (F : UsF w1 X kv fv p6 p7 p8 p11 v6 v7 v8 v11 w') : UsF w1 X kv fv p6 p7 p8 True v6 v7 v8 v8 w' := ⟨F.bel, F.f6, F.f7, F.f8, fun _ => rfl⟩
end
/-- Under way. -/
structure Us (w wr : World) (v : Vr) (cs : List Value) (uo : Value) (os : List (List Int)) : Prop where
  bel : Below w.heap.size w wr
  rv : RowB wr w.heap.size 32 [.int .i64 v.p, .int .i64 v.c, .int .i64 v.h, .int .i64 v.s]
  rb : RowB wr (w.heap.size + 1) 34 cs
  or_ : SlG RelI 1 en1 wr All uo os
theorem Us.below {w wr w' : World} {v : Vr} {cs : List Value} {uo : Value} {os : List (List Int)} (h : Us w wr v cs uo os) (hb : Below wr.heap.size wr w') : Us w w' v cs uo os :=
  ⟨h.bel.trans (hb.mono h.bel.size), h.rv.below hb h.rv.lt, h.rb.below hb h.rb.lt, (relSl RelI 1 en1).keep h.or_ (.below hb)⟩
theorem lng_len {v : Vr} {b : Bd} (hb : Ok v b) {o : List Int} (ho : (∀ d ∈ o, 1 ≤ d ∧ d ≤ 6) ∧ o.length ≤ 4) : (lngP v b o).2.1 ≤ 4 := by
  have := (lng_ok (v := v) o [([], b)] 0 true (fun d hd => (ho.1 d hd).1) (by intro p hp; simp at hp; subst hp; exact ⟨hb, rfl⟩) (by simp)).2.2
  unfold lngP; omega
theorem used_le {v : Vr} {b : Bd} {os : List (List Int)} {m : Nat} (h : ∀ o ∈ os, (lngP v b o).2.1 ≤ m) : usedP v b os ≤ m := by
  induction os with
  | nil => exact Nat.zero_le _
  | cons o os ih => have := h o (List.mem_cons_self ..); have := ih (fun q hq => h q (List.mem_cons_of_mem _ hq)); simp only [usedP]; omega

set_option maxHeartbeats 8000000 in
set_option maxRecDepth 100000 in
theorem used_s (v : Vr) (b : Bd) (hb : Ok v b) (Ao At : Option Addr) (co ct : Nat) (x y : Int) (hx : 1 ≤ x ∧ x ≤ 6) (hy : 1 ≤ y ∧ y ≤ 6) (w : World) (ho : RdS w w.heap.size 1 enI Ao b.1) (ht : RdS w w.heap.size 1 enI At b.2) (hA : Ao = none → co = 0) (hT : At = none → ct = 0) :
    Calls Try.prog 59 #[.agg #[.int .i64 v.p, .int .i64 v.c, .int .i64 v.h, .int .i64 v.s], .agg #[.slice Ao b.1.length co, .slice At b.2.length ct], .agg #[.int .i64 x, .int .i64 y]] w fun e w' => e = .returned (.int .i64 ((usedP v b (ordP x y) : Nat) : Int)) ∧ Below w.heap.size w w' := by
  have CO := Lib.hid (fun (w9 : World) => orders_s x y w9)
  obtain ⟨os, hos⟩ : ∃ os, ordP x y = os := ⟨_, rfl⟩
  have HD := ord_dice hx hy
  rw [hos] at HD CO ⊢
  have HDI := Lib.hid HD.1
  have hos2 := HD.2
  have HLL := Lib.hid (fun o (h : o ∈ os) => lng_len hb (HD.1 o h))
  obtain ⟨n1, hn1⟩ : ∃ n, b.1.length = n := ⟨_, rfl⟩
  obtain ⟨n2, hn2⟩ : ∃ n, b.2.length = n := ⟨_, rfl⟩
  have CS := Lib.hid (fun (w9 : World) (h : Below w.heap.size w w9) (o : List Int) (ho_ : o ∈ os) (u : Value) (hu : SlV 1 enI w9 All u o) => longest_s v b hb Ao At co ct o (HDI.out o ho_).1 (HDI.out o ho_).2 u w9 ((ho.below h (Nat.le_refl _)).more h.size) ((ht.below h (Nat.le_refl _)).more h.size) hA hT hu)
  rw [hn1, hn2] at CS ⊢
  obtain ⟨N, hN⟩ : ∃ N, os.length = N := ⟨_, rfl⟩
  have HN := Lib.hid hN
  rw [hN] at hos2
  obtain ⟨RR, hRR⟩ : ∃ r, usedP v b os = r := ⟨_, rfl⟩
  rw [hRR]
  have HRR := Lib.hid hRR
  clear hb ho ht hA hT hos HD hn1 hn2 hN hx hy hRR
  go_enter Try.func59, Try.ntmps59
  go_upto_region 2 with (fail)
  refine wp_gen (fun W' => Below w.heap.size w W' ∧ RowB W' w.heap.size 32 [.int .i64 v.p, .int .i64 v.c, .int .i64 v.h, .int .i64 v.s] ∧ RowB W' (w.heap.size + 1) 34 [.slice Ao n1 co, .slice At n2 ct] ∧ RowB W' (w.heap.size + 2) 36 [.int .i64 x, .int .i64 y]) ⟨by go_grown, ((RowB.new _ _ _).alloc _).alloc _, RowB.alloc (RowB.new' _ _ _ (by simp)) _, RowB.new' _ _ _ (by simp)⟩ ?_
  rintro w1 ⟨hb1, rv, rb, rr⟩
  obtain ⟨r0, r1⟩ := rr.c2
  have hl2 := rr.lt
  go_wp2_with fail
  refine (CO.out w1).mono ?_
  rintro e w2 ⟨uo, rfl, hor, hb2⟩
  have K : Us w w2 v [.slice Ao n1 co, .slice At n2 ct] uo os := ⟨hb1.trans (hb2.mono hb1.size), rv.below hb2 rv.lt, rb.below hb2 rb.lt, (relSl RelI 1 en1).weak hor (fun _ _ _ => trivial)⟩
  obtain ⟨Ar, cr, rs0, huo, -⟩ := hor
  rw [HN.out] at huo
  subst huo
  clear r0 r1 hl2 rb rr rv hb1 hb2 CO
  have hl1 := K.rv.lt
  go_wp2_with fail
  go_loopw [7, 9] (fun mv i wr => ∃ (k t : Nat), k ≤ N ∧ i = .int .i64 (k : Int) ∧ mv = .int .i64 (t : Int) ∧ Us w wr v [.slice Ao n1 co, .slice At n2 ct] (.slice Ar N cr) os ∧ Hid (max t (usedP v b (os.drop k)) = RR)) (fun _ i _ => N - (intOf i).toNat)
  case atStart => exact ⟨0, 0, Nat.zero_le _, by first | rfl | trivial, by first | rfl | trivial, K, Lib.hid (by rw [← HRR.out]; exact Nat.zero_max _)⟩
  case round =>
    obtain ⟨k, t, hk, rfl, rfl, K, HG⟩ := hrel
    clear hl1
    have hl1 := K.rv.lt
    have hl2 := K.rb.lt
    by_cases hlt : k < N
    · obtain ⟨A5, c5, rs, e5, hrd5, hls5, -⟩ := K.or_
      simp only [Value.slice.injEq] at e5
      obtain ⟨rfl, -, rfl⟩ := e5
      obtain ⟨b5, o5, r, rfl, -, hb5, hr, hc5⟩ := hrd5.at_ (i := k) (by rw [hls5.1, HN.out]; exact hlt)
      obtain ⟨o, ho, hRo⟩ := hls5.at_ hr
      have hc5 : wr.cell? ⟨b5, o5 + k, none⟩ = some r := by have := hc5 0 r rfl; simpa using this
      have HOM := Lib.hid (List.mem_of_getElem? ho)
      have HRO := Lib.hid hRo
      have HG' := HG.out
      rw [drop_cons ho] at HG'
      have HC5 := Lib.hid (fun (w9 : World) (h : Below wr.heap.size wr w9) => (Below.cell h (p := ⟨b5, o5 + k, none⟩) hb5).trans hc5)
      have hkn : (k : Int) < (N : Int) := by omega
      have hwk : IntKind.i64.wrap ((k : Int) + 1) = (k : Int) + 1 := IntWalk.i64_in _ (by omega)
      have hK4 := HLL.out o HOM.out
      obtain ⟨L, hL⟩ : ∃ l, lngP v b o = l := ⟨_, rfl⟩
      have CS := Lib.hid (fun (w9 : World) (h : Below wr.heap.size wr w9) => CS.out w9 (K.bel.trans (h.mono K.bel.size)) o HOM.out r (RelI.keep HRO.out (.below h)))
      rw [hL] at CS hK4
      simp only [usedP, hL] at HG'
      obtain ⟨X, kk, ff⟩ := L
      simp only at CS hK4 HG'
      clear hrd5 hls5 hr ho hL hc5 hb5 HRO
      have RV := Lib.hid K.rv
      have RB := Lib.hid K.rb
      go_wp2_with fail
      refine region_rel [some 22, some 23, some 24, some 25, some 26, some 27, some 28, some 21, some 29, some 30, some 31, some 10, some 11, some 12] 14 (Pl [some (.agg #[.int .i64 v.p, .int .i64 v.c, .int .i64 v.h, .int .i64 v.s]), some (.agg #[.slice Ao n1 co, .slice At n2 ct]), some (.slice (some ⟨b5, o5, none⟩) N cr), some (.int .i64 (k : Int)), some (.pointer (some ⟨b5, o5 + k, none⟩)), some (r), none, none, none, some (.int .i64 (kk : Int)), some (.bool ff), none, some (.int .i64 (kk : Int)), some (.bool ff)]) (fun L vals w' => UsF wr X (.int .i64 (kk : Int)) (.bool ff) (L 6) (L 7) (L 8) (L 11) (vals 6) (vals 7) (vals 8) (vals 11) w') (by kernel_rfl) (by kernel_rfl) (by kernel_rfl) (by kernel_rfl) (by kernel_rfl) (by kernel_rfl) (by kernel_rfl) ?g0_1 ?gst_1 ?gfin_1
      case g0_1 => exact ⟨(Below.refl _ _).drew, fun h => absurd h (by decide), fun h => absurd h (by decide), fun h => absurd h (by decide), fun h => absurd h (by decide)⟩
      case gst_1 =>
        refine RelFrom.run rfl (fun L vals A w9 hno hdl hcl hu hp h0 F K hK => ?_) ?_
        · have e3 : A.tmps[3]?.getD undef = .pointer (some ⟨w.heap.size, 0, none⟩) := h0 3 (fun j _ hj => absurd (List.mem_of_getElem? hj) (by decide))
          clear hu h0 hp
          have rq := (RV.out.below F.bel RV.out.lt).c4
          have q0 := rq.1
          have q1 := rq.2.1
          have q2 := rq.2.2.1
          have q3 := rq.2.2.2
          have rz := (RB.out.below F.bel RB.out.lt).c2
          have z0 := rz.1
          have z1 := rz.2
          have c5 := HC5.out w9 F.bel
          clear rq rz
          go_simp
          exact hK.out _ w9 (Pl.fix rfl) (F.skip 0 _ (by decide) (by decide) (by decide) (by decide))
        refine RelFrom.run rfl (fun L vals A w9 hno hdl hcl hu hp h0 F K hK => ?_) ?_
        · have e4 : A.tmps[4]?.getD undef = .pointer (some ⟨w.heap.size + 1, 0, none⟩) := h0 4 (fun j _ hj => absurd (List.mem_of_getElem? hj) (by decide))
          clear hu h0 hp
          have rq := (RV.out.below F.bel RV.out.lt).c4
          have q0 := rq.1
          have q1 := rq.2.1
          have q2 := rq.2.2.1
          have q3 := rq.2.2.2
          have rz := (RB.out.below F.bel RB.out.lt).c2
          have z0 := rz.1
          have z1 := rz.2
          have c5 := HC5.out w9 F.bel
          clear rq rz
          go_simp
          exact hK.out _ w9 (Pl.fix rfl) (F.skip 1 _ (by decide) (by decide) (by decide) (by decide))
        refine RelFrom.run rfl (fun L vals A w9 hno hdl hcl hu hp h0 F K hK => ?_) ?_
        · have e8 : A.tmps[8]?.getD undef = .slice (some ⟨b5, o5, none⟩) N cr := h0 8 (fun j _ hj => absurd (List.mem_of_getElem? hj) (by decide))
          clear hu h0 hp
          have rq := (RV.out.below F.bel RV.out.lt).c4
          have q0 := rq.1
          have q1 := rq.2.1
          have q2 := rq.2.2.1
          have q3 := rq.2.2.2
          have rz := (RB.out.below F.bel RB.out.lt).c2
          have z0 := rz.1
          have z1 := rz.2
          have c5 := HC5.out w9 F.bel
          clear rq rz
          go_simp
          exact hK.out _ w9 (Pl.fix rfl) (F.skip 2 _ (by decide) (by decide) (by decide) (by decide))
        refine RelFrom.run rfl (fun L vals A w9 hno hdl hcl hu hp h0 F K hK => ?_) ?_
        · have e9 : A.tmps[9]?.getD undef = .int .i64 (k : Int) := h0 9 (fun j _ hj => absurd (List.mem_of_getElem? hj) (by decide))
          clear hu h0 hp
          have rq := (RV.out.below F.bel RV.out.lt).c4
          have q0 := rq.1
          have q1 := rq.2.1
          have q2 := rq.2.2.1
          have q3 := rq.2.2.2
          have rz := (RB.out.below F.bel RB.out.lt).c2
          have z0 := rz.1
          have z1 := rz.2
          have c5 := HC5.out w9 F.bel
          clear rq rz
          go_simp
          exact hK.out _ w9 (Pl.fix rfl) (F.skip 3 _ (by decide) (by decide) (by decide) (by decide))
        refine RelFrom.run rfl (fun L vals A w9 hno hdl hcl hu hp h0 F K hK => ?_) ?_
        · have e24 : A.tmps[24]?.getD undef = .slice (some ⟨b5, o5, none⟩) N cr := (hu 2 24 (by kernel_rfl) rfl).trans (hp 2 (by kernel_rfl) _ rfl)
          have e25 : A.tmps[25]?.getD undef = .int .i64 (k : Int) := (hu 3 25 (by kernel_rfl) rfl).trans (hp 3 (by kernel_rfl) _ rfl)
          clear hu h0 hp
          have rq := (RV.out.below F.bel RV.out.lt).c4
          have q0 := rq.1
          have q1 := rq.2.1
          have q2 := rq.2.2.1
          have q3 := rq.2.2.2
          have rz := (RB.out.below F.bel RB.out.lt).c2
          have z0 := rz.1
          have z1 := rz.2
          have c5 := HC5.out w9 F.bel
          clear rq rz
          go_simp
          exact hK.out _ w9 (Pl.fix rfl) (F.skip 4 _ (by decide) (by decide) (by decide) (by decide))
        refine RelFrom.run rfl (fun L vals A w9 hno hdl hcl hu hp h0 F K hK => ?_) ?_
        · have e26 : A.tmps[26]?.getD undef = .pointer (some ⟨b5, o5 + k, none⟩) := (hu 4 26 (by kernel_rfl) rfl).trans (hp 4 (by kernel_rfl) _ rfl)
          clear hu h0 hp
          have rq := (RV.out.below F.bel RV.out.lt).c4
          have q0 := rq.1
          have q1 := rq.2.1
          have q2 := rq.2.2.1
          have q3 := rq.2.2.2
          have rz := (RB.out.below F.bel RB.out.lt).c2
          have z0 := rz.1
          have z1 := rz.2
          have c5 := HC5.out w9 F.bel
          clear rq rz
          go_simp
          exact hK.out _ w9 (Pl.fix rfl) (F.skip 5 _ (by decide) (by decide) (by decide) (by decide))
        refine RelFrom.run rfl (fun L vals A w9 hno hdl hcl hu hp h0 F K hK => ?_) ?_
        · have e22 : A.tmps[22]?.getD undef = .agg #[.int .i64 v.p, .int .i64 v.c, .int .i64 v.h, .int .i64 v.s] := (hu 0 22 (by kernel_rfl) rfl).trans (hp 0 (by kernel_rfl) _ rfl)
          have e23 : A.tmps[23]?.getD undef = .agg #[.slice Ao n1 co, .slice At n2 ct] := (hu 1 23 (by kernel_rfl) rfl).trans (hp 1 (by kernel_rfl) _ rfl)
          have e27 : A.tmps[27]?.getD undef = r := (hu 5 27 (by kernel_rfl) rfl).trans (hp 5 (by kernel_rfl) _ rfl)
          clear hu h0 hp
          go_simp
          refine (CS.out w9 F.bel).mono ?_
          rintro e w6 ⟨vv, rfl, h3, hb6⟩
          exact hK.out _ w6 (Pl.any rfl) (by simpa [upd] using F.s6 (fun h => hno (hcl 7 6 (by kernel_rfl) h)) (fun h => hno (hcl 8 6 (by kernel_rfl) h)) (fun h => hno (hcl 11 6 (by kernel_rfl) h)) hb6 h3)
        refine RelFrom.run rfl (fun L vals A w9 hno hdl hcl hu hp h0 F K hK => ?_) ?_
        · have e28 : A.tmps[28]?.getD undef = vals 6 := hu 6 28 (by kernel_rfl) rfl
          clear hu h0 hp
          go_simp
          exact hK.out _ w9 (Pl.any rfl) (by simpa [upd] using F.s7)
        refine RelFrom.run rfl (fun L vals A w9 hno hdl hcl hu hp h0 F K hK => ?_) ?_
        · have e21 : A.tmps[21]?.getD undef = vals 7 := hu 7 21 (by kernel_rfl) rfl
          clear hu h0 hp
          have q6 := F.f6 (hdl 6 (by kernel_rfl))
          refine q6.elim fun vv q6 => ?_
          have em := (e21.trans (F.f7 (hdl 7 (by kernel_rfl)))).trans q6.1
          clear e21
          go_simp
          exact hK.out _ w9 (Pl.any rfl) (by simpa [upd] using F.s8 (fun h => hno (hcl 11 8 (by kernel_rfl) h)) q6.2)
        refine RelFrom.run rfl (fun L vals A w9 hno hdl hcl hu hp h0 F K hK => ?_) ?_
        · have e21 : A.tmps[21]?.getD undef = vals 7 := hu 7 21 (by kernel_rfl) rfl
          clear hu h0 hp
          have q6 := F.f6 (hdl 6 (by kernel_rfl))
          refine q6.elim fun vv q6 => ?_
          have em := (e21.trans (F.f7 (hdl 7 (by kernel_rfl)))).trans q6.1
          clear e21
          go_simp
          exact hK.out _ w9 (Pl.fix rfl) (F.skip 9 _ (by decide) (by decide) (by decide) (by decide))
        refine RelFrom.run rfl (fun L vals A w9 hno hdl hcl hu hp h0 F K hK => ?_) ?_
        · have e21 : A.tmps[21]?.getD undef = vals 7 := hu 7 21 (by kernel_rfl) rfl
          clear hu h0 hp
          have q6 := F.f6 (hdl 6 (by kernel_rfl))
          refine q6.elim fun vv q6 => ?_
          have em := (e21.trans (F.f7 (hdl 7 (by kernel_rfl)))).trans q6.1
          clear e21
          go_simp
          exact hK.out _ w9 (Pl.fix rfl) (F.skip 10 _ (by decide) (by decide) (by decide) (by decide))
        refine RelFrom.run rfl (fun L vals A w9 hno hdl hcl hu hp h0 F K hK => ?_) ?_
        · have e29 : A.tmps[29]?.getD undef = vals 8 := hu 8 29 (by kernel_rfl) rfl
          clear hu h0 hp
          go_simp
          exact hK.out _ w9 (Pl.any rfl) (by simpa [upd] using F.s11)
        refine RelFrom.run rfl (fun L vals A w9 hno hdl hcl hu hp h0 F K hK => ?_) ?_
        · have e30 : A.tmps[30]?.getD undef = .int .i64 (kk : Int) := (hu 9 30 (by kernel_rfl) rfl).trans (hp 9 (by kernel_rfl) _ rfl)
          clear hu h0 hp
          have rq := (RV.out.below F.bel RV.out.lt).c4
          have q0 := rq.1
          have q1 := rq.2.1
          have q2 := rq.2.2.1
          have q3 := rq.2.2.2
          have rz := (RB.out.below F.bel RB.out.lt).c2
          have z0 := rz.1
          have z1 := rz.2
          have c5 := HC5.out w9 F.bel
          clear rq rz
          go_simp
          exact hK.out _ w9 (Pl.fix rfl) (F.skip 12 _ (by decide) (by decide) (by decide) (by decide))
        refine RelFrom.run rfl (fun L vals A w9 hno hdl hcl hu hp h0 F K hK => ?_) ?_
        · have e31 : A.tmps[31]?.getD undef = .bool ff := (hu 10 31 (by kernel_rfl) rfl).trans (hp 10 (by kernel_rfl) _ rfl)
          clear hu h0 hp
          have rq := (RV.out.below F.bel RV.out.lt).c4
          have q0 := rq.1
          have q1 := rq.2.1
          have q2 := rq.2.2.1
          have q3 := rq.2.2.2
          have rz := (RB.out.below F.bel RB.out.lt).c2
          have z0 := rz.1
          have z1 := rz.2
          have c5 := HC5.out w9 F.bel
          clear rq rz
          go_simp
          exact hK.out _ w9 (Pl.fix rfl) (F.skip 13 _ (by decide) (by decide) (by decide) (by decide))
        exact RelFrom.nil (by decide)
      case gfin_1 =>
        intro vals w9 hp F
        simp only [Fr, Act.put, List.setIfInBounds_toArray, List.set_cons_zero, List.set_cons_succ, Nat.reduceAdd]
        have hb9 := F.bel
        have h11 : vals 12 = .int .i64 (kk : Int) := hp 12 (by decide) _ rfl
        rw [h11]
        clear F hp h11
        have K := K.below hb9
        have HS : Hid ((if t < kk then (kk : Int) else (t : Int)) = ((max t kk : Nat) : Int)) := Lib.hid (by split <;> omega)
        have HG : Hid (max (max t kk) (usedP v b (os.drop (k + 1))) = RR) := Lib.hid (by rw [← HG', Nat.max_assoc])
        clear HG' hb9 RV RB CS HC5
        go_wp2_with fail
        go_roundw
        case rel => exact ⟨k + 1, max t kk, by omega, by go_num, by rw [HS.out], K, HG⟩
        case measure => simp [intOf]; omega
    · obtain rfl : k = N := by omega
      have hnk : ¬ ((k : Int) < (k : Int)) := by omega
      obtain rfl : t = RR := by rw [← HG.out, List.drop_of_length_le (by rw [HN.out]; exact Nat.le_refl _)]; exact (Nat.max_zero _).symm
      have hb9 := K.bel
      clear HG K
      go_wp2_with fail
      go_ret
      exact ⟨rfl, hb9⟩
end Go.Proofs.Ytfgkkmhafdbicaa.Bd23
