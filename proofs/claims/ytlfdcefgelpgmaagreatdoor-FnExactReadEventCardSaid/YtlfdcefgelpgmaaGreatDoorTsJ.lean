/-
  ReadTurn of the reference: what it returns. Conditions: each theorem's own.
-/
import Derived.Test.YtlfdcefgelpgmaaGreatDoorTsI
set_option linter.unusedVariables false
set_option linter.unusedSimpArgs false
namespace Go.Proofs.YtlfdcefgelpgmaaGreatDoor.TsI
open Go.ChangeShapes Go.WideShapes Go.ChangeAt Go.RowKit Base Ints Own JoinN PlP TxP Num Bd1 Bd5 RegF RegG TxI

/-- A box is made (operation 7) and a roll written into it (8). -/
structure RqF (w1 : World) (x y : Int) (p7 p8 : Prop) (v7 : Value) (w' : World) : Prop where
  bel : Below w1.heap.size w1 w'
  f7 : p7 → ∃ g, v7 = .pointer (some ⟨g, 0, none⟩) ∧ w1.heap.size ≤ g ∧ ∃ a b, RowB w' g 49 [a, b]
  f8 : p8 → ∃ g, v7 = .pointer (some ⟨g, 0, none⟩) ∧ w1.heap.size ≤ g ∧ RowB w' g 49 [.int .i64 x, .int .i64 y]
theorem RqF.skip {w1 w' : World} {x y : Int} {L : Nat → Prop} {vals : Nat → Value} (F : RqF w1 x y (L 7) (L 8) (vals 7) w') (k : Nat) (z : Value) (h7 : 7 ≠ k) (h8 : 8 ≠ k) : RqF w1 x y (7 = k ∨ L 7) (8 = k ∨ L 8) (upd vals k z 7) w' := by
  rw [or_ne h7, or_ne h8, upd_ne h7]; exact F
theorem RqF.below {w1 w' w'' : World} {x y : Int} {p7 p8 : Prop} {v7 : Value} (F : RqF w1 x y p7 p8 v7 w') (hb : Below w'.heap.size w' w'') : RqF w1 x y p7 p8 v7 w'' :=
  ⟨F.bel.trans (hb.mono F.bel.size), fun h => by obtain ⟨g, h1, h2, a, b, h3⟩ := F.f7 h; exact ⟨g, h1, h2, a, b, h3.below hb h3.lt⟩, fun h => by obtain ⟨g, h1, h2, h3⟩ := F.f8 h; exact ⟨g, h1, h2, h3.below hb h3.lt⟩⟩
theorem RqF.s7 {w1 w' : World} {x y : Int} {p7 p8 : Prop} {v7 : Value} (F : RqF w1 x y p7 p8 v7 w') (n8 : ¬ p8) {a b : Value} : RqF w1 x y True p8 (.pointer (some ⟨w'.heap.size, 0, none⟩)) (w'.alloc (.cells #[a, b] 49)) :=
  ⟨F.bel.alloc F.bel.size _, fun _ => ⟨_, rfl, F.bel.size, a, b, RowB.new _ _ _⟩, fun h => absurd h n8⟩
theorem RqF.s8 {w1 w' : World} {x y : Int} {p7 p8 : Prop} {v7 a b : Value} {g : Nat} (F : RqF w1 x y p7 p8 v7 w') (hv : v7 = .pointer (some ⟨g, 0, none⟩)) (hg : w1.heap.size ≤ g) (h : RowB w' g 49 [a, b]) :
    RqF w1 x y p7 True v7 ((w'.setCell ⟨g, 0, none⟩ (.int .i64 x)).setCell ⟨g, 1, none⟩ (.int .i64 y)) := by
  have h2 : RowB ((w'.setCell ⟨g, 0, none⟩ (.int .i64 x)).setCell ⟨g, 1, none⟩ (.int .i64 y)) g 49 [.int .i64 x, .int .i64 y] := (h.set 0 _).set 1 _
  exact ⟨(F.bel.setCell (p := ⟨g, 0, none⟩) hg _).setCell (p := ⟨g, 1, none⟩) hg _, fun _ => ⟨g, hv, hg, _, _, h2⟩, fun _ => ⟨g, hv, hg, h2⟩⟩
/-- A call that returns an own slice and a Boolean, taken apart. -/
structure SqF (w1 : World) (ss : List Stp) (ok : Bool) (p3 p4 p5 p7 : Prop) (v3 v4 v5 v7 : Value) (w' : World) : Prop where
  bel : Below w1.heap.size w1 w'
  f3 : p3 → ∃ sv, v3 = .tuple #[sv, .bool ok] ∧ OwnS w' w1.heap.size w'.heap.size 91 4 enSt sv ss ∧ (p4 → v4 = v3) ∧ (p5 → v5 = sv) ∧ (p7 → v7 = sv)
theorem SqF.skip {w1 w' : World} {ss : List Stp} {ok : Bool} {L : Nat → Prop} {vals : Nat → Value} (F : SqF w1 ss ok (L 3) (L 4) (L 5) (L 7) (vals 3) (vals 4) (vals 5) (vals 7) w') (k : Nat) (z : Value) (h3 : 3 ≠ k) (h4 : 4 ≠ k) (h5 : 5 ≠ k) (h7 : 7 ≠ k) :
    SqF w1 ss ok (3 = k ∨ L 3) (4 = k ∨ L 4) (5 = k ∨ L 5) (7 = k ∨ L 7) (upd vals k z 3) (upd vals k z 4) (upd vals k z 5) (upd vals k z 7) w' := by
  rw [or_ne h3, or_ne h4, or_ne h5, or_ne h7, upd_ne h3, upd_ne h4, upd_ne h5, upd_ne h7]; exact F
theorem SqF.s3 {w1 w' w'' : World} {ss : List Stp} {ok : Bool} {p3 p4 p5 p7 : Prop} {v3 v4 v5 v7 sv : Value} (F : SqF w1 ss ok p3 p4 p5 p7 v3 v4 v5 v7 w') (n4 : ¬ p4) (n5 : ¬ p5) (n7 : ¬ p7) (hb : Below w'.heap.size w' w'') (h : OwnS w'' w'.heap.size w''.heap.size 91 4 enSt sv ss) :
    SqF w1 ss ok True p4 p5 p7 (.tuple #[sv, .bool ok]) v4 v5 v7 w'' :=
  ⟨F.bel.trans (hb.mono F.bel.size), fun _ => ⟨sv, rfl, h.less F.bel.size, fun h => absurd h n4, fun h => absurd h n5, fun h => absurd h n7⟩⟩
theorem SqF.s4 {w1 w' : World} {ss : List Stp} {ok : Bool} {p3 p4 p5 p7 : Prop} {v3 v4 v5 v7 : Value} (F : SqF w1 ss ok p3 p4 p5 p7 v3 v4 v5 v7 w') : SqF w1 ss ok p3 True p5 p7 v3 v3 v5 v7 w' :=
  ⟨F.bel, fun h => by obtain ⟨sv, a, b, c, d, e⟩ := F.f3 h; exact ⟨sv, a, b, fun _ => rfl, d, e⟩⟩
theorem SqF.s5 {w1 w' : World} {ss : List Stp} {ok : Bool} {p3 p4 p5 p7 : Prop} {v3 v4 v5 v7 sv : Value} (F : SqF w1 ss ok p3 p4 p5 p7 v3 v4 v5 v7 w') (hv : v3 = .tuple #[sv, .bool ok]) : SqF w1 ss ok p3 p4 True p7 v3 v4 sv v7 w' :=
  ⟨F.bel, fun h => by
    obtain ⟨s2, a, b, c, d, e⟩ := F.f3 h
    have : s2 = sv := by rw [hv] at a; simpa using a.symm
    subst this
    exact ⟨s2, a, b, c, fun _ => rfl, e⟩⟩
theorem SqF.s7 {w1 w' : World} {ss : List Stp} {ok : Bool} {p3 p4 p5 p7 : Prop} {v3 v4 v5 v7 : Value} (F : SqF w1 ss ok p3 p4 p5 p7 v3 v4 v5 v7 w') (h5 : p5) : SqF w1 ss ok p3 p4 p5 True v3 v4 v5 v5 w' :=
  ⟨F.bel, fun h => by
    obtain ⟨sv, a, b, c, d, e⟩ := F.f3 h
    exact ⟨sv, a, b, c, d, fun _ => d h5⟩⟩
theorem rdTS_eq (v : Vr) (t : By) : rdTS v t = if 80 < t.length then none else if t.length < 4 ∨ ¬ (t.take 4).drop 2 = [58, 32] then none else pairT (rdR v (t.take 2)) (rdSs v (t.drop 4)) := by
  unfold rdTS
  cases rdR v (t.take 2) with
  | none => rfl
  | some p => cases rdSs v (t.drop 4) <;> rfl
set_option maxHeartbeats 2000000 in
set_option maxRecDepth 100000 in
theorem rturn_s (v : Vr) (hv : okV v = true) (t : By) (hl : t.length ≤ 4194304) (w : World) :
    Calls Tryz.prog 56 #[.agg #[.int .i64 v.p, .int .i64 v.c, .int .i64 v.h, .int .i64 v.s], .string (bs t)] w fun e w' => TurnR (rdTS v t) w e w' := by
  obtain ⟨R, hR⟩ : ∃ r, rdTS v t = r := ⟨_, rfl⟩
  have hE := rdTS_eq v t
  rw [hR] at hE ⊢
  have CV := Lib.hid (fun w9 => var_s v true hv w9)
  have hl2 : (t.take 2).length ≤ 4194304 := by rw [List.length_take]; omega
  have hl4 : (t.drop 4).length ≤ 4194304 := by rw [List.length_drop]; omega
  have CR := Lib.hid (fun (w9 : World) => rroll_s v hv (t.take 2) hl2 w9)
  have CS := Lib.hid (fun (w9 : World) => rsteps_s v hv (t.drop 4) hl4 w9)
  obtain ⟨⟨⟨x, y⟩, o1⟩, hq⟩ : ∃ q, optR (rdR v (t.take 2)) = q := ⟨_, rfl⟩
  rw [hq] at CR
  simp only at CR
  have HQ := Lib.hid (optR_inv hq)
  obtain ⟨O, hO⟩ : ∃ o, rdSs v (t.drop 4) = o := ⟨_, rfl⟩
  rw [hO] at CS hE
  obtain ⟨P, hP⟩ : ∃ p, rdR v (t.take 2) = p := ⟨_, rfl⟩
  rw [hP] at hE HQ
  obtain ⟨o2, ho2⟩ : ∃ b, O.isSome = b := ⟨_, rfl⟩
  obtain ⟨ss, hss⟩ : ∃ z, O.getD [] = z := ⟨_, rfl⟩
  rw [ho2, hss] at CS
  have HO2 := Lib.hid ho2
  have HSS := Lib.hid hss
  obtain ⟨s, hs⟩ : ∃ s, bs t = s := ⟨_, rfl⟩
  have hsd : s.data.toList = t := by rw [← hs]; rfl
  have HZ : Hid (s.size = t.length) := by show _ = _; rw [← hs]; exact bs_size t
  have hx24 : s.extract 2 4 = bs ((t.take 4).drop 2) := by rw [Lib.extract_eq, hsd, List.drop_take]; rfl
  have hx02 : s.extract 0 2 = bs (t.take 2) := by rw [Lib.extract_eq, hsd]; rfl
  have hx4 : s.extract 4 s.size = bs (t.drop 4) := by rw [Lib.extract_eq, hsd, HZ.out, List.take_of_length_le (by rw [List.length_drop]; exact Nat.le_refl _)]; rfl
  rw [hs]
  have HE := Lib.hid hE
  have hsm : s.size ≤ 4194304 := by rw [HZ.out]; exact hl
  clear hE hR hq hO hP hv hl hs hsd ho2 hss hl2 hl4
  go_enter Tryz.func56, Tryz.ntmps56
  go_upto_region 1 with (fail)
  refine wp_gen (fun W' => Bvr w W' v 0 0) ⟨by go_grown, (RowB.new _ _ _).alloc _, RowB.new' _ _ _ (by simp)⟩ ?_
  intro w1 K
  obtain ⟨q0, q1, q2, q3⟩ := K.rv.c4
  have hlv := K.rv.lt
  go_wp2_with fail
  refine (CV.out _).mono ?_
  rintro e w2 ⟨rfl, hb⟩
  have K := K.below hb
  clear q0 q1 q2 q3 hlv hb CV
  have hlr := K.rr.lt
  have frr := K.rr.frozen
  obtain ⟨r0, r1⟩ := K.rr.c2
  by_cases h80 : 80 < t.length
  · have hRn : R = none := by rw [HE.out, if_pos h80]
    subst hRn
    have d1 : decide ((80 : Int) < (s.size : Int)) = true := decide_eq_true (by rw [HZ.out]; omega)
    clear h80 HE
    go_wp2_with fail
    have hbF := ((K.bel.setCell (p := ⟨w.heap.size + 1, 0, none⟩) (by show w.heap.size ≤ w.heap.size + 1; omega) (.int .i64 0)).setCell (p := ⟨w.heap.size + 1, 1, none⟩) (by show w.heap.size ≤ w.heap.size + 1; omega) (.int .i64 0))
    refine bp_gen (fun W' => Below w.heap.size w W' ∧ RowB W' (w.heap.size + 1) 49 [.int .i64 0, .int .i64 0] ∧ OwnS W' w.heap.size W'.heap.size 91 4 enSt (.slice (some ⟨w2.heap.size, 0, none⟩) 0 0) []) ⟨hbF.alloc hbF.size _, ((K.rr.set 0 _).set 1 _).alloc _, ?_⟩ ?_
    · simpa using (RowB.new ((w2.setCell ⟨w.heap.size + 1, 0, none⟩ (.int .i64 0)).setCell ⟨w.heap.size + 1, 1, none⟩ (.int .i64 0)) 91 []).own (xs := ([] : List Stp)) (en := enSt) enSt_len hbF.size (by simp) (by decide)
    rintro w8 ⟨hb8, r8, o8⟩
    obtain ⟨z0, z1⟩ := r8.c2
    refine bodyPost_ret (v := .tuple #[.agg #[.int .i64 0, .int .i64 0], .slice (some ⟨w2.heap.size, 0, none⟩) 0 0, .int .i64 3]) (by simp [results, Tryz.results56, go_sem, z0, z1]) rfl ?_
    exact ⟨0, 0, _, 3, [], rfl, o8, hb8, by decide⟩
  have d1 : decide ((80 : Int) < (s.size : Int)) = false := decide_eq_false (by rw [HZ.out]; omega)
  have HE2 : Hid (R = if t.length < 4 ∨ ¬ (t.take 4).drop 2 = [58, 32] then none else pairT P O) := by show _ = _; rw [HE.out, if_neg h80]
  clear h80 HE
  by_cases h4 : t.length < 4
  · have hRn : R = none := by rw [HE2.out, if_pos (.inl h4)]
    subst hRn
    have d2 : decide ((s.size : Int) < (4 : Int)) = true := decide_eq_true (by rw [HZ.out]; omega)
    clear h4 HE2
    go_wp2_with fail
    have hbF := ((K.bel.setCell (p := ⟨w.heap.size + 1, 0, none⟩) (by show w.heap.size ≤ w.heap.size + 1; omega) (.int .i64 0)).setCell (p := ⟨w.heap.size + 1, 1, none⟩) (by show w.heap.size ≤ w.heap.size + 1; omega) (.int .i64 0))
    refine bp_gen (fun W' => Below w.heap.size w W' ∧ RowB W' (w.heap.size + 1) 49 [.int .i64 0, .int .i64 0] ∧ OwnS W' w.heap.size W'.heap.size 91 4 enSt (.slice (some ⟨w2.heap.size, 0, none⟩) 0 0) []) ⟨hbF.alloc hbF.size _, ((K.rr.set 0 _).set 1 _).alloc _, ?_⟩ ?_
    · simpa using (RowB.new ((w2.setCell ⟨w.heap.size + 1, 0, none⟩ (.int .i64 0)).setCell ⟨w.heap.size + 1, 1, none⟩ (.int .i64 0)) 91 []).own (xs := ([] : List Stp)) (en := enSt) enSt_len hbF.size (by simp) (by decide)
    rintro w8 ⟨hb8, r8, o8⟩
    obtain ⟨z0, z1⟩ := r8.c2
    refine bodyPost_ret (v := .tuple #[.agg #[.int .i64 0, .int .i64 0], .slice (some ⟨w2.heap.size, 0, none⟩) 0 0, .int .i64 6]) (by simp [results, Tryz.results56, go_sem, z0, z1]) rfl ?_
    exact ⟨0, 0, _, 6, [], rfl, o8, hb8, by decide⟩
  have d2 : decide ((s.size : Int) < (4 : Int)) = false := decide_eq_false (by rw [HZ.out]; omega)
  have h4s : 4 ≤ s.size := by rw [HZ.out]; omega
  by_cases hc : (t.take 4).drop 2 = [58, 32]
  rotate_left
  · have hRn : R = none := by rw [HE2.out, if_pos (.inr hc)]
    subst hRn
    have e3 : ((bs ((t.take 4).drop 2)).toList == [58, 32]) = false := by rw [ByteArray.toList_eq, bs_data]; exact beq_eq_false_iff_ne.2 hc
    have e4 : (!((bs ((t.take 4).drop 2)).toList == [58, 32])) = true := by rw [e3]; rfl
    clear hc h4 HE2 hx4 hx02
    go_wp2_with fail
    have hbF := ((K.bel.setCell (p := ⟨w.heap.size + 1, 0, none⟩) (by show w.heap.size ≤ w.heap.size + 1; omega) (.int .i64 0)).setCell (p := ⟨w.heap.size + 1, 1, none⟩) (by show w.heap.size ≤ w.heap.size + 1; omega) (.int .i64 0))
    refine bp_gen (fun W' => Below w.heap.size w W' ∧ RowB W' (w.heap.size + 1) 49 [.int .i64 0, .int .i64 0] ∧ OwnS W' w.heap.size W'.heap.size 91 4 enSt (.slice (some ⟨w2.heap.size, 0, none⟩) 0 0) []) ⟨hbF.alloc hbF.size _, ((K.rr.set 0 _).set 1 _).alloc _, ?_⟩ ?_
    · simpa using (RowB.new ((w2.setCell ⟨w.heap.size + 1, 0, none⟩ (.int .i64 0)).setCell ⟨w.heap.size + 1, 1, none⟩ (.int .i64 0)) 91 []).own (xs := ([] : List Stp)) (en := enSt) enSt_len hbF.size (by simp) (by decide)
    rintro w8 ⟨hb8, r8, o8⟩
    obtain ⟨z0, z1⟩ := r8.c2
    refine bodyPost_ret (v := .tuple #[.agg #[.int .i64 0, .int .i64 0], .slice (some ⟨w2.heap.size, 0, none⟩) 0 0, .int .i64 6]) (by simp [results, Tryz.results56, go_sem, z0, z1]) rfl ?_
    exact ⟨0, 0, _, 6, [], rfl, o8, hb8, by decide⟩
  have e3 : ((bs ((t.take 4).drop 2)).toList == [58, 32]) = true := by rw [ByteArray.toList_eq, bs_data, hc]; rfl
  have HE3 : Hid (R = pairT P O) := by show _ = _; rw [HE2.out, if_neg (by rintro (h | h); exact h4 h; exact h hc)]
  clear HE2 hc h4
  have hlv := K.rv.lt
  have h2s : 2 ≤ s.size := by omega
  go_upto_region 7 with (fail)
  clear r0 r1 hlr frr d1 d2 e3 hx24
  have h2i : (2 : Int) ≤ (s.size : Int) := by omega
  have h4i : (4 : Int) ≤ (s.size : Int) := by omega
  have KB := K
  clear K
  refine region_rel [some 32, some 33, some 34, some 35, some 31, some 36, some 37, some 7, none, some 8] 10 (Pl [some (.agg #[.int .i64 v.p, .int .i64 v.c, .int .i64 v.h, .int .i64 v.s]), some (.string s), some (.string (bs (t.take 2))), some (.tuple #[.agg #[.int .i64 x, .int .i64 y], .bool o1]), some (.tuple #[.agg #[.int .i64 x, .int .i64 y], .bool o1]), some (.agg #[.int .i64 x, .int .i64 y]), some (.bool o1), none, none, some (.bool o1)]) (fun L vals w' => RqF w2 x y (L 7) (L 8) (vals 7) w') (by kernel_rfl) (by kernel_rfl) (by kernel_rfl) (by kernel_rfl) (by kernel_rfl) (by kernel_rfl) (by kernel_rfl) ?g0_1 ?gst_1 ?gfin_1
  case g0_1 => exact ⟨(Below.refl _ _).drew, fun h => absurd h (by decide), fun h => absurd h (by decide)⟩
  case gst_1 =>
    refine RelFrom.run rfl (fun L vals A w9 hno hdl hcl hu hp h0 F K hK => ?_) ?_
    · have e2 : A.tmps[2]?.getD undef = .pointer (some ⟨w.heap.size, 0, none⟩) := h0 2 (fun j _ hj => absurd (List.mem_of_getElem? hj) (by decide))
      clear hu h0 hp
      have rw_ := KB.rv.below F.bel hlv
      have rq := rw_.c4
      have q0 := rq.1
      have q1 := rq.2.1
      have q2 := rq.2.2.1
      have q3 := rq.2.2.2
      clear rw_ rq
      go_simp
      exact hK.out _ w9 (Pl.fix rfl) (F.skip 0 _ (by decide) (by decide))
    refine RelFrom.run rfl (fun L vals A w9 hno hdl hcl hu hp h0 F K hK => ?_) ?_
    · have e1 : A.tmps[1]?.getD undef = .string s := h0 1 (fun j _ hj => absurd (List.mem_of_getElem? hj) (by decide))
      clear hu h0 hp
      have rw_ := KB.rv.below F.bel hlv
      have rq := rw_.c4
      have q0 := rq.1
      have q1 := rq.2.1
      have q2 := rq.2.2.1
      have q3 := rq.2.2.2
      clear rw_ rq
      go_simp
      exact hK.out _ w9 (Pl.fix rfl) (F.skip 1 _ (by decide) (by decide))
    refine RelFrom.run rfl (fun L vals A w9 hno hdl hcl hu hp h0 F K hK => ?_) ?_
    · have e33 : A.tmps[33]?.getD undef = .string s := (hu 1 33 (by kernel_rfl) rfl).trans (hp 1 (by kernel_rfl) _ rfl)
      clear hu h0 hp
      have rw_ := KB.rv.below F.bel hlv
      have rq := rw_.c4
      have q0 := rq.1
      have q1 := rq.2.1
      have q2 := rq.2.2.1
      have q3 := rq.2.2.2
      clear rw_ rq
      go_simp
      exact hK.out _ w9 (Pl.fix rfl) (F.skip 2 _ (by decide) (by decide))
    refine RelFrom.run rfl (fun L vals A w9 hno hdl hcl hu hp h0 F K hK => ?_) ?_
    · have e32 : A.tmps[32]?.getD undef = .agg #[.int .i64 v.p, .int .i64 v.c, .int .i64 v.h, .int .i64 v.s] := (hu 0 32 (by kernel_rfl) rfl).trans (hp 0 (by kernel_rfl) _ rfl)
      have e34 : A.tmps[34]?.getD undef = .string (bs (t.take 2)) := (hu 2 34 (by kernel_rfl) rfl).trans (hp 2 (by kernel_rfl) _ rfl)
      clear hu h0 hp
      go_simp
      refine (CR.out w9).mono ?_
      rintro e w6 ⟨rfl, hb6⟩
      exact hK.out _ w6 (Pl.fix rfl) ((F.below hb6).skip 3 _ (by decide) (by decide))
    refine RelFrom.run rfl (fun L vals A w9 hno hdl hcl hu hp h0 F K hK => ?_) ?_
    · have e35 : A.tmps[35]?.getD undef = .tuple #[.agg #[.int .i64 x, .int .i64 y], .bool o1] := (hu 3 35 (by kernel_rfl) rfl).trans (hp 3 (by kernel_rfl) _ rfl)
      clear hu h0 hp
      have rw_ := KB.rv.below F.bel hlv
      have rq := rw_.c4
      have q0 := rq.1
      have q1 := rq.2.1
      have q2 := rq.2.2.1
      have q3 := rq.2.2.2
      clear rw_ rq
      go_simp
      exact hK.out _ w9 (Pl.fix rfl) (F.skip 4 _ (by decide) (by decide))
    refine RelFrom.run rfl (fun L vals A w9 hno hdl hcl hu hp h0 F K hK => ?_) ?_
    · have e31 : A.tmps[31]?.getD undef = .tuple #[.agg #[.int .i64 x, .int .i64 y], .bool o1] := (hu 4 31 (by kernel_rfl) rfl).trans (hp 4 (by kernel_rfl) _ rfl)
      clear hu h0 hp
      have rw_ := KB.rv.below F.bel hlv
      have rq := rw_.c4
      have q0 := rq.1
      have q1 := rq.2.1
      have q2 := rq.2.2.1
      have q3 := rq.2.2.2
      clear rw_ rq
      go_simp
      exact hK.out _ w9 (Pl.fix rfl) (F.skip 5 _ (by decide) (by decide))
    refine RelFrom.run rfl (fun L vals A w9 hno hdl hcl hu hp h0 F K hK => ?_) ?_
    · have e31 : A.tmps[31]?.getD undef = .tuple #[.agg #[.int .i64 x, .int .i64 y], .bool o1] := (hu 4 31 (by kernel_rfl) rfl).trans (hp 4 (by kernel_rfl) _ rfl)
      clear hu h0 hp
      have rw_ := KB.rv.below F.bel hlv
      have rq := rw_.c4
      have q0 := rq.1
      have q1 := rq.2.1
      have q2 := rq.2.2.1
      have q3 := rq.2.2.2
      clear rw_ rq
      go_simp
      exact hK.out _ w9 (Pl.fix rfl) (F.skip 6 _ (by decide) (by decide))
    refine RelFrom.run rfl (fun L vals A w9 hno hdl hcl hu hp h0 F K hK => ?_) ?_
    · clear hu h0 hp
      go_simp
      exact hK.out _ _ (Pl.any rfl) (by simpa [upd] using F.s7 (fun h => hno (hcl 8 7 (by kernel_rfl) h)))
    refine RelFrom.run rfl (fun L vals A w9 hno hdl hcl hu hp h0 F K hK => ?_) ?_
    · have e7 : A.tmps[7]?.getD undef = vals 7 := hu 7 7 (by kernel_rfl) rfl
      have e36 : A.tmps[36]?.getD undef = .agg #[.int .i64 x, .int .i64 y] := (hu 5 36 (by kernel_rfl) rfl).trans (hp 5 (by kernel_rfl) _ rfl)
      clear hu h0 hp
      have f7 := F.f7 (hdl 7 (by kernel_rfl))
      refine f7.elim fun g q => ?_
      refine q.2.2.elim fun a1 q2 => ?_
      refine q2.elim fun a2 r => ?_
      have e7' := e7.trans q.1
      have rc := r.c2
      have y0 := rc.1
      have y1 := rc.2
      have fr := r.frozen
      clear e7 rc q2
      go_simp
      exact hK.out undef _ (Pl.any rfl) (by simpa [upd] using F.s8 q.1 q.2.1 r)
    refine RelFrom.run rfl (fun L vals A w9 hno hdl hcl hu hp h0 F K hK => ?_) ?_
    · have e37 : A.tmps[37]?.getD undef = .bool o1 := (hu 6 37 (by kernel_rfl) rfl).trans (hp 6 (by kernel_rfl) _ rfl)
      clear hu h0 hp
      have rw_ := KB.rv.below F.bel hlv
      have rq := rw_.c4
      have q0 := rq.1
      have q1 := rq.2.1
      have q2 := rq.2.2.1
      have q3 := rq.2.2.2
      clear rw_ rq
      go_simp
      exact hK.out _ w9 (Pl.fix rfl) (F.skip 9 _ (by decide) (by decide))
    exact RelFrom.nil (by decide)
  intro vals w9 hp F
  simp only [Fr, Act.put, List.setIfInBounds_toArray, List.set_cons_zero, List.set_cons_succ, Nat.reduceAdd]
  have hr9 : vals 9 = .bool o1 := hp 9 (by decide) _ rfl
  rw [hr9]
  obtain ⟨gx, hv7, hgx, rx⟩ := F.f8 trivial
  rw [hv7]
  clear hv7
  have K := KB.below F.bel
  clear KB
  have hw25 := F.bel.size
  have hlx := rx.lt
  clear F hp hr9 hlv
  obtain ⟨w5, hw5⟩ : ∃ u, w9 = u := ⟨_, rfl⟩
  rw [hw5] at K rx hlx hw25 ⊢
  clear hw5 hx02 CR
  have hlv := K.rv.lt
  have HX := Lib.hid rx
  clear rx
  go_upto_region 8 with (fail)
  have KB := K
  clear K
  refine region_rel [some 39, some 40, some 41, some 42, some 38, some 43, some 44, some 9, some 10] 9 (Pl [some (.agg #[.int .i64 v.p, .int .i64 v.c, .int .i64 v.h, .int .i64 v.s]), some (.string s), some (.string (bs (t.drop 4))), none, none, none, some (.bool o2), none, some (.bool o2)]) (fun L vals w' => SqF w5 ss o2 (L 3) (L 4) (L 5) (L 7) (vals 3) (vals 4) (vals 5) (vals 7) w') (by kernel_rfl) (by kernel_rfl) (by kernel_rfl) (by kernel_rfl) (by kernel_rfl) (by kernel_rfl) (by kernel_rfl) ?g0_2 ?gst_2 ?gfin_2
  case g0_2 => exact ⟨(Below.refl _ _).drew, fun h => absurd h (by decide)⟩
  case gst_2 =>
    refine RelFrom.run rfl (fun L vals A w9 hno hdl hcl hu hp h0 F K hK => ?_) ?_
    · have e2 : A.tmps[2]?.getD undef = .pointer (some ⟨w.heap.size, 0, none⟩) := h0 2 (fun j _ hj => absurd (List.mem_of_getElem? hj) (by decide))
      clear hu h0 hp
      have rw_ := KB.rv.below F.bel hlv
      have rq := rw_.c4
      have q0 := rq.1
      have q1 := rq.2.1
      have q2 := rq.2.2.1
      have q3 := rq.2.2.2
      clear rw_ rq
      go_simp
      exact hK.out _ w9 (Pl.fix rfl) (F.skip 0 _ (by decide) (by decide) (by decide) (by decide))
    refine RelFrom.run rfl (fun L vals A w9 hno hdl hcl hu hp h0 F K hK => ?_) ?_
    · have e1 : A.tmps[1]?.getD undef = .string s := h0 1 (fun j _ hj => absurd (List.mem_of_getElem? hj) (by decide))
      clear hu h0 hp
      have rw_ := KB.rv.below F.bel hlv
      have rq := rw_.c4
      have q0 := rq.1
      have q1 := rq.2.1
      have q2 := rq.2.2.1
      have q3 := rq.2.2.2
      clear rw_ rq
      go_simp
      exact hK.out _ w9 (Pl.fix rfl) (F.skip 1 _ (by decide) (by decide) (by decide) (by decide))
    refine RelFrom.run rfl (fun L vals A w9 hno hdl hcl hu hp h0 F K hK => ?_) ?_
    · have e40 : A.tmps[40]?.getD undef = .string s := (hu 1 40 (by kernel_rfl) rfl).trans (hp 1 (by kernel_rfl) _ rfl)
      clear hu h0 hp
      have rw_ := KB.rv.below F.bel hlv
      have rq := rw_.c4
      have q0 := rq.1
      have q1 := rq.2.1
      have q2 := rq.2.2.1
      have q3 := rq.2.2.2
      clear rw_ rq
      go_simp
      exact hK.out _ w9 (Pl.fix rfl) (F.skip 2 _ (by decide) (by decide) (by decide) (by decide))
    refine RelFrom.run rfl (fun L vals A w9 hno hdl hcl hu hp h0 F K hK => ?_) ?_
    · have e39 : A.tmps[39]?.getD undef = .agg #[.int .i64 v.p, .int .i64 v.c, .int .i64 v.h, .int .i64 v.s] := (hu 0 39 (by kernel_rfl) rfl).trans (hp 0 (by kernel_rfl) _ rfl)
      have e41 : A.tmps[41]?.getD undef = .string (bs (t.drop 4)) := (hu 2 41 (by kernel_rfl) rfl).trans (hp 2 (by kernel_rfl) _ rfl)
      clear hu h0 hp
      go_simp
      refine (CS.out w9).mono ?_
      rintro e w6 ⟨sv, rfl, ho6, hb6⟩
      exact hK.out _ w6 (Pl.any rfl) (by simpa [upd] using F.s3 (fun h => hno (hcl 4 3 (by kernel_rfl) h)) (fun h => hno (hcl 5 3 (by kernel_rfl) h)) (fun h => hno (hcl 7 3 (by kernel_rfl) h)) hb6 ho6)
    refine RelFrom.run rfl (fun L vals A w9 hno hdl hcl hu hp h0 F K hK => ?_) ?_
    · have e42 : A.tmps[42]?.getD undef = vals 3 := hu 3 42 (by kernel_rfl) rfl
      clear hu h0 hp
      go_simp
      exact hK.out _ w9 (Pl.any rfl) (by simpa [upd] using F.s4)
    refine RelFrom.run rfl (fun L vals A w9 hno hdl hcl hu hp h0 F K hK => ?_) ?_
    · have e38 : A.tmps[38]?.getD undef = vals 4 := hu 4 38 (by kernel_rfl) rfl
      clear hu h0 hp
      have f3 := F.f3 (hdl 3 (by kernel_rfl))
      refine f3.elim fun sv q => ?_
      have e38' := e38.trans ((q.2.2.1 (hdl 4 (by kernel_rfl))).trans q.1)
      clear e38
      go_simp
      exact hK.out _ w9 (Pl.any rfl) (by simpa [upd] using F.s5 q.1)
    refine RelFrom.run rfl (fun L vals A w9 hno hdl hcl hu hp h0 F K hK => ?_) ?_
    · have e38 : A.tmps[38]?.getD undef = vals 4 := hu 4 38 (by kernel_rfl) rfl
      clear hu h0 hp
      have f3 := F.f3 (hdl 3 (by kernel_rfl))
      refine f3.elim fun sv q => ?_
      have e38' := e38.trans ((q.2.2.1 (hdl 4 (by kernel_rfl))).trans q.1)
      clear e38
      go_simp
      exact hK.out _ w9 (Pl.fix rfl) (F.skip 6 _ (by decide) (by decide) (by decide) (by decide))
    refine RelFrom.run rfl (fun L vals A w9 hno hdl hcl hu hp h0 F K hK => ?_) ?_
    · have e43 : A.tmps[43]?.getD undef = vals 5 := hu 5 43 (by kernel_rfl) rfl
      clear hu h0 hp
      go_simp
      exact hK.out _ w9 (Pl.any rfl) (by simpa [upd] using F.s7 (hdl 5 (by kernel_rfl)))
    refine RelFrom.run rfl (fun L vals A w9 hno hdl hcl hu hp h0 F K hK => ?_) ?_
    · have e44 : A.tmps[44]?.getD undef = .bool o2 := (hu 6 44 (by kernel_rfl) rfl).trans (hp 6 (by kernel_rfl) _ rfl)
      clear hu h0 hp
      have rw_ := KB.rv.below F.bel hlv
      have rq := rw_.c4
      have q0 := rq.1
      have q1 := rq.2.1
      have q2 := rq.2.2.1
      have q3 := rq.2.2.2
      clear rw_ rq
      go_simp
      exact hK.out _ w9 (Pl.fix rfl) (F.skip 8 _ (by decide) (by decide) (by decide) (by decide))
    exact RelFrom.nil (by decide)
  intro vals w9_1 hp F
  simp only [Fr, Act.put, List.setIfInBounds_toArray, List.set_cons_zero, List.set_cons_succ, Nat.reduceAdd]
  have hr8 : vals 8 = .bool o2 := hp 8 (by decide) _ rfl
  rw [hr8]
  obtain ⟨sv, hv3, hos, hv4, hv5, hv7⟩ := F.f3 trivial
  have hv7 := hv7 trivial
  rw [hv7]
  have hL5 : w.heap.size + 1 < w5.heap.size := KB.rr.lt
  have hLw : w.heap.size ≤ w5.heap.size := KB.bel.size
  have K := KB.below F.bel
  clear KB
  have rx := HX.out.below F.bel hlx
  obtain ⟨w6, hw6⟩ : ∃ u, w9_1 = u := ⟨_, rfl⟩
  rw [hw6] at K rx hos ⊢
  clear F hp hr8 hv3 hv4 hv5 hv7 HX hlv hw6 CS hx4
  have hlr := K.rr.lt
  have frr := K.rr.frozen
  obtain ⟨r0, r1⟩ := K.rr.c2
  have hlx := rx.lt
  obtain ⟨x0, x1⟩ := rx.c2
  cases o1
  case false =>
    have hno : P = none := HQ.out
    have hRn : R = none := by rw [HE3.out, hno]; rfl
    subst hRn
    clear HE3 hos hno
    go_wp2_with fail
    have hbF := ((K.bel.setCell (p := ⟨w.heap.size + 1, 0, none⟩) (by show w.heap.size ≤ w.heap.size + 1; omega) (.int .i64 0)).setCell (p := ⟨w.heap.size + 1, 1, none⟩) (by show w.heap.size ≤ w.heap.size + 1; omega) (.int .i64 0))
    refine bp_gen (fun W' => Below w.heap.size w W' ∧ RowB W' (w.heap.size + 1) 49 [.int .i64 0, .int .i64 0] ∧ OwnS W' w.heap.size W'.heap.size 91 4 enSt (.slice (some ⟨w6.heap.size, 0, none⟩) 0 0) []) ⟨hbF.alloc hbF.size _, ((K.rr.set 0 _).set 1 _).alloc _, ?_⟩ ?_
    · simpa using (RowB.new ((w6.setCell ⟨w.heap.size + 1, 0, none⟩ (.int .i64 0)).setCell ⟨w.heap.size + 1, 1, none⟩ (.int .i64 0)) 91 []).own (xs := ([] : List Stp)) (en := enSt) enSt_len hbF.size (by simp) (by decide)
    rintro w8 ⟨hb8, r8, o8⟩
    obtain ⟨z0, z1⟩ := r8.c2
    refine bodyPost_ret (v := .tuple #[.agg #[.int .i64 0, .int .i64 0], .slice (some ⟨w6.heap.size, 0, none⟩) 0 0, .int .i64 6]) (by simp [results, Tryz.results56, go_sem, z0, z1]) rfl ?_
    exact ⟨0, 0, _, 6, [], rfl, o8, hb8, by decide⟩
  have hyes : P = some (x, y) := HQ.out
  cases o2
  case false =>
    have hno : O = none := by have := HO2.out; cases O with | none => rfl | some z => cases this
    have hRn : R = none := by rw [HE3.out, hyes, hno]; rfl
    subst hRn
    clear HE3 hos hyes hno
    go_wp2_with fail
    have hbF := ((K.bel.setCell (p := ⟨w.heap.size + 1, 0, none⟩) (by show w.heap.size ≤ w.heap.size + 1; omega) (.int .i64 0)).setCell (p := ⟨w.heap.size + 1, 1, none⟩) (by show w.heap.size ≤ w.heap.size + 1; omega) (.int .i64 0))
    refine bp_gen (fun W' => Below w.heap.size w W' ∧ RowB W' (w.heap.size + 1) 49 [.int .i64 0, .int .i64 0] ∧ OwnS W' w.heap.size W'.heap.size 91 4 enSt (.slice (some ⟨w6.heap.size, 0, none⟩) 0 0) []) ⟨hbF.alloc hbF.size _, ((K.rr.set 0 _).set 1 _).alloc _, ?_⟩ ?_
    · simpa using (RowB.new ((w6.setCell ⟨w.heap.size + 1, 0, none⟩ (.int .i64 0)).setCell ⟨w.heap.size + 1, 1, none⟩ (.int .i64 0)) 91 []).own (xs := ([] : List Stp)) (en := enSt) enSt_len hbF.size (by simp) (by decide)
    rintro w8 ⟨hb8, r8, o8⟩
    obtain ⟨z0, z1⟩ := r8.c2
    refine bodyPost_ret (v := .tuple #[.agg #[.int .i64 0, .int .i64 0], .slice (some ⟨w6.heap.size, 0, none⟩) 0 0, .int .i64 6]) (by simp [results, Tryz.results56, go_sem, z0, z1]) rfl ?_
    exact ⟨0, 0, _, 6, [], rfl, o8, hb8, by decide⟩
  have hso : O = some ss := by
    have h1 := HO2.out
    have h2 := HSS.out
    cases O with
    | none => cases h1
    | some z => exact congrArg some h2
  have hRn : R = some (x, y, ss) := by rw [HE3.out, hyes, hso]; rfl
  subst hRn
  have HOS := Lib.hid hos
  clear HE3 hos hyes hso
  go_wp2_with fail
  refine bp_gen (fun W' => Below w.heap.size w W' ∧ RowB W' (w.heap.size + 1) 49 [.int .i64 x, .int .i64 y] ∧ OwnS W' w.heap.size W'.heap.size 91 4 enSt sv ss) ⟨(K.bel.setCell (p := ⟨w.heap.size + 1, 0, none⟩) (by show w.heap.size ≤ w.heap.size + 1; omega) _).setCell (p := ⟨w.heap.size + 1, 1, none⟩) (by show w.heap.size ≤ w.heap.size + 1; omega) _, (K.rr.set 0 _).set 1 _, ?_⟩ ?_
  · have h2 := ((HOS.out.setCell (p := ⟨w.heap.size + 1, 0, none⟩) hL5 (.int .i64 x)).setCell (p := ⟨w.heap.size + 1, 1, none⟩) hL5 (.int .i64 y)).less hLw
    simpa using h2
  rintro w8 ⟨hb8, r8, o8⟩
  obtain ⟨z0, z1⟩ := r8.c2
  refine bodyPost_ret (v := .tuple #[.agg #[.int .i64 x, .int .i64 y], sv, .int .i64 0]) (by simp [results, Tryz.results56, go_sem, z0, z1]) rfl ?_
  exact ⟨x, y, sv, 0, ss, rfl, o8, hb8, rfl, rfl⟩
end Go.Proofs.YtlfdcefgelpgmaaGreatDoor.TsI
