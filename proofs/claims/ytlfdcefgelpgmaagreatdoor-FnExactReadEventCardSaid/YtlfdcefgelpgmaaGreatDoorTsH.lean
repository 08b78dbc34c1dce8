/-
  l06Read of the reference: what it returns. Conditions: each theorem's own.
-/
import Derived.Test.YtlfdcefgelpgmaaGreatDoorTsG
set_option linter.unusedVariables false
set_option linter.unusedSimpArgs false
namespace Go.Proofs.YtlfdcefgelpgmaaGreatDoor.TsI
open Go.ChangeShapes Go.WideShapes Go.ChangeAt Go.RowKit Base Ints Own JoinN PlP TxP Num Bd1 Bd5 RegF RegG TxI

set_option maxHeartbeats 4000000 in
set_option maxRecDepth 100000 in
theorem rstep_s (v : Vr) (hv : okV v = true) (t : By) (hl : t.length ≤ 4194304) (w : World) :
    Calls Tryz.prog 106 #[.agg #[.int .i64 v.p, .int .i64 v.c, .int .i64 v.h, .int .i64 v.s], .string (bs t)] w fun e w' => e = .returned (.tuple #[stpV (optS (rdI v t)).1, .bool (optS (rdI v t)).2]) ∧ Below w.heap.size w w' := by
  have CG := Lib.hid (fun w9 => guess_s v hv t hl w9)
  rw [← rd_eq hv]
  have hR0 : rdS v t = if plainB v (gS v t) = true ∧ stpT v (gS v t) = t then some (gS v t) else none := rfl
  obtain ⟨R, hR⟩ : ∃ r, optS (rdS v t) = r := ⟨_, rfl⟩
  rw [hR]
  obtain ⟨G, hG⟩ : ∃ g, gS v t = g := ⟨_, rfl⟩
  rw [hG] at CG hR0
  obtain ⟨f, t1, d, h⟩ := G
  unfold stpV at CG
  simp only at CG
  have HR : Hid (R = if plainB v (f, t1, d, h) = true ∧ stpT v (f, t1, d, h) = t then ((f, t1, d, h), true) else ((0, 0, 0, false), false)) := by
    show _ = _
    rw [← hR, hR0]
    split <;> rfl
  have HV := Lib.hid hv
  clear hR0 hR hG hv hl
  go_enter Tryz.func106, Tryz.ntmps106
  go_upto_region 1 with (fail)
  refine wp_gen (fun W' => Below w.heap.size w W' ∧ RowB W' w.heap.size 25 [.int .i64 v.p, .int .i64 v.c, .int .i64 v.h, .int .i64 v.s] ∧ RowB W' (w.heap.size + 1) 91 [.int .i64 0, .int .i64 0, .int .i64 0, .bool false]) ⟨by go_grown, (RowB.new _ _ _).alloc _, RowB.new' _ _ _ (by simp)⟩ ?_
  rintro w1 ⟨hb1, rv, r0⟩
  obtain ⟨q0, q1, q2, q3⟩ := rv.c4
  have hlv := rv.lt
  go_wp2_with fail
  refine (CG.out _).mono ?_
  rintro e w2 ⟨rfl, hb⟩
  have hb1 := hb1.trans (hb.mono hb1.size)
  have rv := rv.below hb hlv
  have r0 := r0.below hb r0.lt
  have hlo : w.heap.size + 2 ≤ w2.heap.size := r0.lt
  clear q0 q1 q2 q3 hlv hb CG
  go_upto_region 2 with (fail)
  refine wp_gen (fun W' => Below w.heap.size w W' ∧ RowB W' w.heap.size 25 [.int .i64 v.p, .int .i64 v.c, .int .i64 v.h, .int .i64 v.s] ∧ RowB W' (w.heap.size + 1) 91 [.int .i64 0, .int .i64 0, .int .i64 0, .bool false] ∧ RowB W' w2.heap.size 91 [.int .i64 f, .int .i64 t1, .int .i64 d, .bool h]) ⟨hb1.alloc hb1.size _, rv.alloc _, r0.alloc _, RowB.new _ _ _⟩ ?_
  clear hb1 rv r0
  rintro w3 ⟨hb1, rv, r0, rs⟩
  obtain ⟨gs, hgs⟩ : ∃ g, w2.heap.size = g := ⟨_, rfl⟩
  rw [hgs] at rs hlo ⊢
  clear hgs
  obtain ⟨q0, q1, q2, q3⟩ := rv.c4
  have hlv := rv.lt
  obtain ⟨y0, y1, y2, y3⟩ := r0.c4
  have hl0 := r0.lt
  have fr := r0.frozen
  obtain ⟨x0, x1, x2, x3⟩ := rs.c4
  have hls := rs.lt
  obtain ⟨pb, hpb⟩ : ∃ b, plainB v (f, t1, d, h) = b := ⟨_, rfl⟩
  have CP := Lib.hid (fun w9 => plain_s v HV.out (f, t1, d, h) pb hpb w9)
  simp only at CP
  have HPB := Lib.hid hpb
  clear hpb
  go_wp2_with fail
  refine (CP.out _).mono ?_
  rintro e w5 ⟨rfl, hb⟩
  have hb1 := hb1.trans (hb.mono hb1.size)
  have rv := rv.below hb hlv
  have r0 := r0.below hb hl0
  have rs := rs.below hb hls
  clear q0 q1 q2 q3 hlv y0 y1 y2 y3 hl0 fr x0 x1 x2 x3 hls hb
  obtain ⟨q0, q1, q2, q3⟩ := rv.c4
  have hlv := rv.lt
  obtain ⟨y0, y1, y2, y3⟩ := r0.c4
  have hl0 := r0.lt
  have fr := r0.frozen
  obtain ⟨x0, x1, x2, x3⟩ := rs.c4
  have hls := rs.lt
  cases pb
  case false =>
    have hRn : R = ((0, 0, 0, false), false) := by rw [HR.out, if_neg (fun h => by rw [HPB.out] at h; simp at h)]
    subst hRn
    clear HR
    go_wp2_with fail
    refine bp_gen (fun W' => Below w.heap.size w W' ∧ RowB W' (w.heap.size + 1) 91 [.int .i64 0, .int .i64 0, .int .i64 0, .bool false]) ⟨below_four hb1 (by omega) _ _ _ _, four r0 _ _ _ _⟩ ?_
    rintro w8 ⟨hb8, r8⟩
    obtain ⟨z0, z1, z2, z3⟩ := r8.c4
    refine bodyPost_ret (v := .tuple #[.agg #[.int .i64 0, .int .i64 0, .int .i64 0, .bool false], .bool false]) (by simp [results, Tryz.results106, go_sem, z0, z1, z2, z3]) rfl ?_
    exact ⟨rfl, hb8⟩
  have CT := Lib.hid (fun w9 => step_s v HV.out (f, t1, d, h) HPB.out w9)
  simp only at CT
  obtain ⟨tx, htx⟩ : ∃ x, stpT v (f, t1, d, h) = x := ⟨_, rfl⟩
  rw [htx] at CT
  have HTX := Lib.hid htx
  clear htx
  go_wp2_with fail
  refine (CT.out _).mono ?_
  rintro e w6 ⟨rfl, hb⟩
  have hb1 := hb1.trans (hb.mono hb1.size)
  have rv := rv.below hb hlv
  have r0 := r0.below hb hl0
  have rs := rs.below hb hls
  clear q0 q1 q2 q3 hlv y0 y1 y2 y3 hl0 fr x0 x1 x2 x3 hls hb
  obtain ⟨q0, q1, q2, q3⟩ := rv.c4
  have hlv := rv.lt
  obtain ⟨y0, y1, y2, y3⟩ := r0.c4
  have hl0 := r0.lt
  have fr := r0.frozen
  obtain ⟨x0, x1, x2, x3⟩ := rs.c4
  have hls := rs.lt
  by_cases heq : tx = t
  · have hRn : R = ((f, t1, d, h), true) := by rw [HR.out, if_pos ⟨HPB.out, HTX.out.trans heq⟩]
    subst hRn
    have e1 : ((bs tx).toList == (bs t).toList) = true := by rw [bs_eq]; exact decide_eq_true heq
    have e2 : ((bs tx).toList != (bs t).toList) = false := by simp only [bne, e1]; rfl
    clear heq HR
    go_wp2_with fail
    refine bp_gen (fun W' => Below w.heap.size w W' ∧ RowB W' (w.heap.size + 1) 91 [.int .i64 f, .int .i64 t1, .int .i64 d, .bool h]) ⟨below_four hb1 (by omega) _ _ _ _, four r0 _ _ _ _⟩ ?_
    rintro w8 ⟨hb8, r8⟩
    obtain ⟨z0, z1, z2, z3⟩ := r8.c4
    refine bodyPost_ret (v := .tuple #[.agg #[.int .i64 f, .int .i64 t1, .int .i64 d, .bool h], .bool true]) (by simp [results, Tryz.results106, go_sem, z0, z1, z2, z3]) rfl ?_
    exact ⟨rfl, hb8⟩
  · have hRn : R = ((0, 0, 0, false), false) := by rw [HR.out, if_neg (fun h => heq (HTX.out.symm.trans h.2))]
    subst hRn
    have e1 : ((bs tx).toList == (bs t).toList) = false := by rw [bs_eq]; exact decide_eq_false heq
    have e2 : ((bs tx).toList != (bs t).toList) = true := by simp only [bne, e1]; rfl
    clear heq HR
    go_wp2_with fail
    refine bp_gen (fun W' => Below w.heap.size w W' ∧ RowB W' (w.heap.size + 1) 91 [.int .i64 0, .int .i64 0, .int .i64 0, .bool false]) ⟨below_four hb1 (by omega) _ _ _ _, four r0 _ _ _ _⟩ ?_
    rintro w8 ⟨hb8, r8⟩
    obtain ⟨z0, z1, z2, z3⟩ := r8.c4
    refine bodyPost_ret (v := .tuple #[.agg #[.int .i64 0, .int .i64 0, .int .i64 0, .bool false], .bool false]) (by simp [results, Tryz.results106, go_sem, z0, z1, z2, z3]) rfl ?_
    exact ⟨rfl, hb8⟩
end Go.Proofs.YtlfdcefgelpgmaaGreatDoor.TsI
