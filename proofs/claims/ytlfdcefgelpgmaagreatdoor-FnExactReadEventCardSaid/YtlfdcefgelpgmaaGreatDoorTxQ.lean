/-
  impl.ReadTurn: what it returns. Conditions: each theorem's own.
-/
import Derived.Test.YtlfdcefgelpgmaaGreatDoorTxO
set_option linter.unusedVariables false
set_option linter.unusedSimpArgs false
namespace Go.Proofs.YtlfdcefgelpgmaaGreatDoor.TxI
open Go.ChangeShapes Go.WideShapes Go.ChangeAt Go.RowKit Base Ints Own JoinN PlP TxP Num Bd1 Bd5 RegF RegG

/-- What a reader of turns returns. -/
def TurnR (o : Option (Int × Int × List Stp)) (w : World) (e : Ending) (w' : World) : Prop :=
  ∃ (x y : Int) (sv : Value) (c : Int) (ss : List Stp), e = .returned (.tuple #[.agg #[.int .i64 x, .int .i64 y], sv, .int .i64 c]) ∧ OwnS w' w.heap.size w'.heap.size 91 4 enSt sv ss ∧ Below w.heap.size w w' ∧ (match o with
    | some r => r = (x, y, ss) ∧ c = 0
    | none => c ≠ 0)
def pairT (a : Option (Int × Int)) (b : Option (List Stp)) : Option (Int × Int × List Stp) := a.bind fun p => b.map fun ss => (p.1, p.2, ss)
theorem rdTI_eq {v : Vr} {t l r : By} {one : Bool} (h : Lib.cut t [58, 32] = (l, r, one)) : rdTI v t = if 80 < t.length then none else if one = false then none else pairT (rdR v l) (rdSs v r) := by
  unfold rdTI
  rw [h]
  simp only
  cases rdR v l with
  | none => rfl
  | some p => cases rdSs v r <;> rfl
theorem optR_inv {o : Option (Int × Int)} {s : Int × Int} {ok : Bool} (h : optR o = (s, ok)) : if ok = true then o = some s else o = none := by
  cases o with
  | none => simp [optR] at h; obtain ⟨_, rfl⟩ := h; simp
  | some x => simp [optR] at h; obtain ⟨rfl, rfl⟩ := h; simp
set_option maxHeartbeats 2000000 in
set_option maxRecDepth 100000 in
theorem rturn_i (v : Vr) (hv : okV v = true) (t : By) (hl : t.length ≤ 4194304) (w : World) (E : Env w) :
    Calls Tryz.prog 52 #[.agg #[.int .i64 v.p, .int .i64 v.c, .int .i64 v.h, .int .i64 v.s], .string (bs t)] w fun e w' => TurnR (rdTI v t) w e w' := by
  obtain ⟨R, hR⟩ : ∃ r, rdTI v t = r := ⟨_, rfl⟩
  obtain ⟨⟨l, r, one⟩, h1⟩ : ∃ z, Lib.cut t [58, 32] = z := ⟨_, rfl⟩
  have hc := cut_len t [58, 32]
  rw [h1] at hc
  simp only at hc
  have hE : R = if 80 < t.length then none else if one = false then none else pairT (rdR v l) (rdSs v r) := by rw [← hR]; exact rdTI_eq h1
  rw [hR]
  have CV := Lib.hid (fun w9 => var_i v true hv w9)
  have CC := Lib.hid (fun (w9 : World) (E9 : Env w9) => cut_w t [58, 32] hl w9 E9)
  have CR := Lib.hid (fun (w9 : World) => rroll_i v hv l (by omega) w9)
  have CS := Lib.hid (fun (w9 : World) (E9 : Env w9) => rsteps_i v hv r (by omega) w9 E9)
  rw [h1] at CC
  simp only at CC
  obtain ⟨⟨⟨x, y⟩, o1⟩, hq⟩ : ∃ q, optR (rdR v l) = q := ⟨_, rfl⟩
  rw [hq] at CR
  simp only at CR
  have HQ := Lib.hid (optR_inv hq)
  obtain ⟨O, hO⟩ : ∃ o, rdSs v r = o := ⟨_, rfl⟩
  rw [hO] at CS hE
  have hz := bs_size t
  have HE := Lib.hid hE
  clear hE hR h1 hc hq hO hv hl
  go_enter Tryz.func52, Tryz.ntmps52
  go_upto_region 1 with (fail)
  refine wp_gen (fun W' => Bvr w W' v 0 0) ⟨by go_grown, (RowB.new _ _ _).alloc _, RowB.new' _ _ _ (by simp)⟩ ?_
  intro w1 K
  obtain ⟨q0, q1, q2, q3⟩ := K.rv.c4
  have hlv := K.rv.lt
  go_wp2_with fail
  refine (CV.out _).mono ?_
  rintro e w2 ⟨rfl, hb⟩
  have K := K.below hb
  clear q0 q1 q2 q3 hlv hb CV
  have hlr := K.rr.lt
  have frr := K.rr.frozen
  obtain ⟨r0, r1⟩ := K.rr.c2
  by_cases h80 : 80 < t.length
  · have hRn : R = none := by rw [HE.out, if_pos h80]
    subst hRn
    have d1 : decide ((80 : Int) < ((bs t).size : Int)) = true := decide_eq_true (by rw [hz]; omega)
    clear hz h80 HE
    go_wp2_with fail
    refine bp_gen (fun W' => Below w.heap.size w W' ∧ RowB W' (w.heap.size + 1) 49 [.int .i64 0, .int .i64 0]) ⟨(K.bel.setCell (p := ⟨w.heap.size + 1, 0, none⟩) (by show w.heap.size ≤ w.heap.size + 1; omega) _).setCell (p := ⟨w.heap.size + 1, 1, none⟩) (by show w.heap.size ≤ w.heap.size + 1; omega) _, (K.rr.set 0 _).set 1 _⟩ ?_
    rintro w8 ⟨hb8, r8⟩
    obtain ⟨z0, z1⟩ := r8.c2
    refine bodyPost_ret (v := .tuple #[.agg #[.int .i64 0, .int .i64 0], .slice none 0 0, .int .i64 3]) (by simp [results, Tryz.results52, go_sem, z0, z1]) rfl ?_
    exact ⟨0, 0, _, 3, [], rfl, OwnS.nil_ _ _ _ _ _ _, hb8, by decide⟩
  have d1 : decide ((80 : Int) < ((bs t).size : Int)) = false := decide_eq_false (by rw [hz]; omega)
  have HE2 : Hid (R = if one = false then none else pairT (rdR v l) O) := by show _ = _; rw [HE.out, if_neg h80]
  clear hz h80 HE
  go_wp2_with fail
  refine (CC.out _ (E.below K.bel)).mono ?_
  rintro e w3 ⟨rfl, hb⟩
  have K := K.below hb
  clear r0 r1 hlr frr hb CC d1
  have hlr := K.rr.lt
  have frr := K.rr.frozen
  obtain ⟨r0, r1⟩ := K.rr.c2
  cases one
  case false =>
    have hRn : R = none := by rw [HE2.out, if_pos rfl]
    subst hRn
    clear HE2
    go_wp2_with fail
    refine bp_gen (fun W' => Below w.heap.size w W' ∧ RowB W' (w.heap.size + 1) 49 [.int .i64 0, .int .i64 0]) ⟨(K.bel.setCell (p := ⟨w.heap.size + 1, 0, none⟩) (by show w.heap.size ≤ w.heap.size + 1; omega) _).setCell (p := ⟨w.heap.size + 1, 1, none⟩) (by show w.heap.size ≤ w.heap.size + 1; omega) _, (K.rr.set 0 _).set 1 _⟩ ?_
    rintro w8 ⟨hb8, r8⟩
    obtain ⟨z0, z1⟩ := r8.c2
    refine bodyPost_ret (v := .tuple #[.agg #[.int .i64 0, .int .i64 0], .slice none 0 0, .int .i64 6]) (by simp [results, Tryz.results52, go_sem, z0, z1]) rfl ?_
    exact ⟨0, 0, _, 6, [], rfl, OwnS.nil_ _ _ _ _ _ _, hb8, by decide⟩
  have HE3 : Hid (R = pairT (rdR v l) O) := by show _ = _; rw [HE2.out, if_neg (by simp)]
  clear HE2
  obtain ⟨q0, q1, q2, q3⟩ := K.rv.c4
  have hlv := K.rv.lt
  go_wp2_with fail
  refine (CR.out _).mono ?_
  rintro e w4 ⟨rfl, hb⟩
  have K := K.below hb
  clear r0 r1 hlr frr hb CR q0 q1 q2 q3 hlv
  go_upto_region 9 with (fail)
  refine wp_gen (fun W' => Bvr w W' v 0 0 ∧ RowB W' w4.heap.size 49 [.int .i64 x, .int .i64 y]) ⟨K.below ((Below.refl _ _).alloc (Nat.le_refl _) _), RowB.new _ _ _⟩ ?_
  have hg4 : w.heap.size + 2 ≤ w4.heap.size := K.rr.lt
  clear K
  rintro w5 ⟨K, rx⟩
  obtain ⟨gx, hgx⟩ : ∃ g, w4.heap.size = g := ⟨_, rfl⟩
  rw [hgx] at rx hg4 ⊢
  clear hgx
  obtain ⟨q0, q1, q2, q3⟩ := K.rv.c4
  have hlv := K.rv.lt
  go_wp2_with fail
  refine (CS.out _ (E.below K.bel)).mono ?_
  rintro e w6 ⟨sv, rfl, hos, hb⟩
  have hL5 : w.heap.size + 1 < w5.heap.size := K.rr.lt
  have hLw : w.heap.size ≤ w5.heap.size := K.bel.size
  have K := K.below hb
  have rx := rx.below hb rx.lt
  clear q0 q1 q2 q3 hlv hb CS
  have hlr := K.rr.lt
  have frr := K.rr.frozen
  obtain ⟨r0, r1⟩ := K.rr.c2
  have hlx := rx.lt
  obtain ⟨x0, x1⟩ := rx.c2
  cases o1
  case false =>
    have hno : rdR v l = none := HQ.out
    have hRn : R = none := by rw [HE3.out, hno]; rfl
    subst hRn
    clear HE3 hos hno
    go_wp2_with fail
    refine bp_gen (fun W' => Below w.heap.size w W' ∧ RowB W' (w.heap.size + 1) 49 [.int .i64 0, .int .i64 0]) ⟨(K.bel.setCell (p := ⟨w.heap.size + 1, 0, none⟩) (by show w.heap.size ≤ w.heap.size + 1; omega) _).setCell (p := ⟨w.heap.size + 1, 1, none⟩) (by show w.heap.size ≤ w.heap.size + 1; omega) _, (K.rr.set 0 _).set 1 _⟩ ?_
    rintro w8 ⟨hb8, r8⟩
    obtain ⟨z0, z1⟩ := r8.c2
    refine bodyPost_ret (v := .tuple #[.agg #[.int .i64 0, .int .i64 0], .slice none 0 0, .int .i64 6]) (by simp [results, Tryz.results52, go_sem, z0, z1]) rfl ?_
    exact ⟨0, 0, _, 6, [], rfl, OwnS.nil_ _ _ _ _ _ _, hb8, by decide⟩
  have hyes : rdR v l = some (x, y) := HQ.out
  cases O with
  | none =>
    have hRn : R = none := by rw [HE3.out, hyes]; rfl
    subst hRn
    clear HE3 hos hyes
    go_wp2_with fail
    refine bp_gen (fun W' => Below w.heap.size w W' ∧ RowB W' (w.heap.size + 1) 49 [.int .i64 0, .int .i64 0]) ⟨(K.bel.setCell (p := ⟨w.heap.size + 1, 0, none⟩) (by show w.heap.size ≤ w.heap.size + 1; omega) _).setCell (p := ⟨w.heap.size + 1, 1, none⟩) (by show w.heap.size ≤ w.heap.size + 1; omega) _, (K.rr.set 0 _).set 1 _⟩ ?_
    rintro w8 ⟨hb8, r8⟩
    obtain ⟨z0, z1⟩ := r8.c2
    refine bodyPost_ret (v := .tuple #[.agg #[.int .i64 0, .int .i64 0], .slice none 0 0, .int .i64 6]) (by simp [results, Tryz.results52, go_sem, z0, z1]) rfl ?_
    exact ⟨0, 0, _, 6, [], rfl, OwnS.nil_ _ _ _ _ _ _, hb8, by decide⟩
  | some ss =>
    have hRn : R = some (x, y, ss) := by rw [HE3.out, hyes]; rfl
    subst hRn
    have hos : OwnS w6 w5.heap.size w6.heap.size 91 4 enSt sv ss := hos
    have HOS := Lib.hid hos
    clear HE3 hos hyes
    go_wp2_with fail
    refine bp_gen (fun W' => Below w.heap.size w W' ∧ RowB W' (w.heap.size + 1) 49 [.int .i64 x, .int .i64 y] ∧ OwnS W' w.heap.size W'.heap.size 91 4 enSt sv ss) ⟨(K.bel.setCell (p := ⟨w.heap.size + 1, 0, none⟩) (by show w.heap.size ≤ w.heap.size + 1; omega) _).setCell (p := ⟨w.heap.size + 1, 1, none⟩) (by show w.heap.size ≤ w.heap.size + 1; omega) _, (K.rr.set 0 _).set 1 _, ?_⟩ ?_
    · have h2 := ((HOS.out.setCell (p := ⟨w.heap.size + 1, 0, none⟩) hL5 (.int .i64 x)).setCell (p := ⟨w.heap.size + 1, 1, none⟩) hL5 (.int .i64 y)).less hLw
      simpa using h2
    rintro w8 ⟨hb8, r8, o8⟩
    obtain ⟨z0, z1⟩ := r8.c2
    refine bodyPost_ret (v := .tuple #[.agg #[.int .i64 x, .int .i64 y], sv, .int .i64 0]) (by simp [results, Tryz.results52, go_sem, z0, z1]) rfl ?_
    exact ⟨x, y, sv, 0, ss, rfl, o8, hb8, rfl, rfl⟩
end Go.Proofs.YtlfdcefgelpgmaaGreatDoor.TxI
