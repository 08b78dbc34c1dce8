/-
  impl.ReadEvent: what it returns. Conditions: each theorem's own.
-/
import Derived.Test.YtlfdcefgelpgmaaGreatDoorTxT
set_option linter.unusedVariables false
set_option linter.unusedSimpArgs false
namespace Go.Proofs.YtlfdcefgelpgmaaGreatDoor.TxI
open Go.ChangeShapes Go.WideShapes Go.ChangeAt Go.RowKit Base Ints Own JoinN PlP TxP Num Bd1 Bd5 RegF RegG

def rdEv (v : Vr) (t : By) : Option Ev := if okV v = true then rdE v t else none
/-- What a reader of events returns. -/
def EvR (o : Option Ev) (w : World) (e : Ending) (w' : World) : Prop :=
  ∃ (k a b : Int) (sv : Value) (ss : List Stp) (r : Int) (ok : Bool), e = .returned (.tuple #[.agg #[.int .i64 k, .int .i64 a, .int .i64 b, sv, .int .i64 r], .bool ok]) ∧ OwnS w' w.heap.size w'.heap.size 91 4 enSt sv ss ∧ Below w.heap.size w w' ∧
    (if ok = true then o = some ⟨k, a, b, ss, r⟩ else o = none ∧ k = 0 ∧ a = 0 ∧ b = 0 ∧ ss = [] ∧ r = 0)
set_option maxHeartbeats 4000000 in
set_option maxRecDepth 100000 in
theorem revent_i (v : Vr) (t : By) (hl : t.length ≤ 4194304) (w : World) (E : Env w) :
    Calls Tryz.prog 9 #[.agg #[.int .i64 v.p, .int .i64 v.c, .int .i64 v.h, .int .i64 v.s], .string (bs t)] w fun e w' => EvR (rdEv v t) w e w' := by
  obtain ⟨okv, hok⟩ : ∃ o, okV v = o := ⟨_, rfl⟩
  have CV := Lib.hid (fun w9 => var_i v okv hok w9)
  obtain ⟨R, hR⟩ : ∃ x, rdEv v t = x := ⟨_, rfl⟩
  rw [hR]
  have HR := Lib.hid hR
  have HO := Lib.hid hok
  have CP := Lib.hid (fun (hv : okV v = true) (w9 : World) (E9 : Env w9) => parts_i v hv t hl w9 E9)
  clear hR hok
  go_enter Tryz.func9, Tryz.ntmps9
  go_upto_region 1 with (fail)
  refine wp_gen (fun W' => Bve w W' v [.int .i64 0, .int .i64 0, .int .i64 0, .slice none 0 0, .int .i64 0]) ⟨by go_grown, (RowB.new _ _ _).alloc _, RowB.new' _ _ _ (by simp)⟩ ?_
  intro w1 K
  obtain ⟨q0, q1, q2, q3⟩ := K.rv.c4
  have hlv := K.rv.lt
  go_wp2_with fail
  refine (CV.out _).mono ?_
  rintro e w2 ⟨rfl, hb⟩
  have K := K.below hb
  clear q0 q1 q2 q3 hlv hb CV
  have hle := K.re.lt
  have fre := K.re.frozen
  obtain ⟨y0, y1, y2, y3, y4⟩ := K.re.c5
  cases okv
  case false =>
    have hRn : R = none := by rw [← HR.out]; unfold rdEv; rw [HO.out]; rfl
    subst hRn
    clear HR
    go_wp2_with fail
    refine bp_gen (fun W' => Below w.heap.size w W' ∧ RowB W' (w.heap.size + 1) 28 [.int .i64 0, .int .i64 0, .int .i64 0, .slice none 0 0, .int .i64 0]) ⟨below_five K.bel (by omega) _ _ _ _ _, five K.re _ _ _ _ _⟩ ?_
    rintro w8 ⟨hb8, r8⟩
    obtain ⟨z0, z1, z2, z3, z4⟩ := r8.c5
    refine bodyPost_ret (v := .tuple #[.agg #[.int .i64 0, .int .i64 0, .int .i64 0, .slice none 0 0, .int .i64 0], .bool false]) (by simp [results, Tryz.results9, go_sem, z0, z1, z2, z3, z4]) rfl ?_
    exact ⟨0, 0, 0, _, [], 0, false, rfl, OwnS.nil_ _ _ _ _ _ _, hb8, rfl, rfl, rfl, rfl, rfl, rfl⟩
  have HR2 : Hid (R = if evnT v (gEI v t) = t ∧ t ≠ [] then some (gEI v t) else none) := by show _ = _; rw [← HR.out]; unfold rdEv; rw [HO.out]; rfl
  have HV := HO.out
  clear HR
  obtain ⟨q0, q1, q2, q3⟩ := K.rv.c4
  have hlv := K.rv.lt
  go_wp2_with fail
  refine (CP.out HV _ (E.below K.bel)).mono ?_
  rintro e w3 ⟨k, a, b, sv, ss, r, ok, rfl, hos, hb, hres⟩
  have hs23 := hb.size
  have hlo : w.heap.size + 2 ≤ w2.heap.size := hle
  have K := K.below hb
  clear q0 q1 q2 q3 hlv hb CP y0 y1 y2 y3 y4 hle fre
  obtain ⟨A, cp, hsv, _⟩ := hos.form enSt_len
  have HRES := Lib.hid hres
  obtain ⟨n, hn⟩ : ∃ n, ss.length = n := ⟨_, rfl⟩
  rw [hn] at hsv
  subst hsv
  have HN := Lib.hid hn
  clear hres hn
  go_upto_region 4 with (fail)
  refine wp_gen (fun W' => Below w3.heap.size w3 W' ∧ Bve w W' v [.int .i64 0, .int .i64 0, .int .i64 0, .slice none 0 0, .int .i64 0] ∧ RowB W' w3.heap.size 28 [.int .i64 k, .int .i64 a, .int .i64 b, .slice A n cp, .int .i64 r] ∧ OwnS W' w2.heap.size w3.heap.size 91 4 enSt (.slice A n cp) ss) ⟨(Below.refl _ _).alloc (Nat.le_refl _) _, K.below ((Below.refl _ _).alloc (Nat.le_refl _) _), RowB.new _ _ _, hos.alloc _⟩ ?_
  clear K hos
  rintro w5 ⟨hb5, K, rx, hos⟩
  have hs35 := hb5.size
  have HOS := Lib.hid hos
  obtain ⟨gx, hgx⟩ : ∃ g, w3.heap.size = g := ⟨_, rfl⟩
  rw [hgx] at rx
  (try rw [hgx])
  have hgl : w.heap.size + 2 ≤ gx := by omega
  clear hos hb5
  cases ok
  case false =>
    have hnul : gEI v t = nulE := HRES.out
    have hRn : R = none := by rw [HR2.out, hnul, evnT_nul v, if_neg (fun h => h.2 h.1.symm)]
    subst hRn
    have hle := K.re.lt
    have fre := K.re.frozen
    obtain ⟨y0, y1, y2, y3, y4⟩ := K.re.c5
    clear HR2 HRES hnul hgx
    go_wp2_with fail
    refine bp_gen (fun W' => Below w.heap.size w W' ∧ RowB W' (w.heap.size + 1) 28 [.int .i64 0, .int .i64 0, .int .i64 0, .slice none 0 0, .int .i64 0]) ⟨below_five K.bel (by omega) _ _ _ _ _, five K.re _ _ _ _ _⟩ ?_
    rintro w8 ⟨hb8, r8⟩
    obtain ⟨z0, z1, z2, z3, z4⟩ := r8.c5
    refine bodyPost_ret (v := .tuple #[.agg #[.int .i64 0, .int .i64 0, .int .i64 0, .slice none 0 0, .int .i64 0], .bool false]) (by simp [results, Tryz.results9, go_sem, z0, z1, z2, z3, z4]) rfl ?_
    exact ⟨0, 0, 0, _, [], 0, false, rfl, OwnS.nil_ _ _ _ _ _ _, hb8, rfl, rfl, rfl, rfl, rfl, rfl⟩
  obtain ⟨hge, hnt⟩ : gEI v t = ⟨k, a, b, ss, r⟩ ∧ t ≠ [] := HRES.out
  have CE := Lib.hid (fun (w9 : World) (h9 : Below w5.heap.size w5 w9) => event_i v k a b ss r A cp w3.heap.size w9 (by have := h9.size; omega) ((HOS.out.rd enSt_len).below h9 (by omega)) (E.below (K.bel.trans (h9.mono K.bel.size))))
  rw [if_pos HV, HN.out] at CE
  obtain ⟨tx, htx⟩ : ∃ x, evnT v ⟨k, a, b, ss, r⟩ = x := ⟨_, rfl⟩
  rw [htx] at CE
  have hR3 : R = if tx = t then some ⟨k, a, b, ss, r⟩ else none := by
    rw [HR2.out, hge, htx]
    by_cases h : tx = t
    · rw [if_pos ⟨h, hnt⟩, if_pos h]
    · rw [if_neg (fun h' => h h'.1), if_neg h]
  have HR3 := Lib.hid hR3
  obtain ⟨q0, q1, q2, q3⟩ := K.rv.c4
  have hlv := K.rv.lt
  obtain ⟨x0, x1, x2, x3, x4⟩ := rx.c5
  have hlx := rx.lt
  clear hR3 htx hge HR2 HRES hgx hnt
  go_wp2_with fail
  refine (CE.out _ (Below.refl _ _)).mono ?_
  rintro e w6 ⟨rfl, hb⟩
  have K := K.below hb
  have rx := rx.below hb hlx
  have hs36 : w3.heap.size ≤ w6.heap.size := by have := hb.size; omega
  have HOS := Lib.hid (HOS.out.below hb (by omega))
  clear q0 q1 q2 q3 hlv hb CE x0 x1 x2 x3 x4 hlx
  have hle := K.re.lt
  have fre := K.re.frozen
  obtain ⟨y0, y1, y2, y3, y4⟩ := K.re.c5
  obtain ⟨x0, x1, x2, x3, x4⟩ := rx.c5
  have hlx := rx.lt
  by_cases heq : tx = t
  · have hRn : R = some ⟨k, a, b, ss, r⟩ := by rw [HR3.out, if_pos heq]
    subst hRn
    have e1 : ((bs tx).toList == (bs t).toList) = true := by rw [bs_eq]; exact decide_eq_true heq
    have e2 : ((bs tx).toList != (bs t).toList) = false := by simp only [bne, e1]; rfl
    clear heq HR3
    go_wp2_with fail
    refine bp_gen (fun W' => Below w.heap.size w W' ∧ RowB W' (w.heap.size + 1) 28 [.int .i64 k, .int .i64 a, .int .i64 b, .slice A n cp, .int .i64 r] ∧ w3.heap.size ≤ W'.heap.size ∧ OwnS W' w2.heap.size w3.heap.size 91 4 enSt (.slice A n cp) ss) ⟨below_five K.bel (by omega) _ _ _ _ _, five K.re _ _ _ _ _, by simpa using hs36, own_five HOS.out (by omega) _ _ _ _ _⟩ ?_
    rintro w8 ⟨hb8, r8, hs8, o8⟩
    obtain ⟨z0, z1, z2, z3, z4⟩ := r8.c5
    refine bodyPost_ret (v := .tuple #[.agg #[.int .i64 k, .int .i64 a, .int .i64 b, .slice A n cp, .int .i64 r], .bool true]) (by simp [results, Tryz.results9, go_sem, z0, z1, z2, z3, z4]) rfl ?_
    exact ⟨k, a, b, _, ss, r, true, rfl, (o8.less (by omega)).more hs8, hb8, rfl⟩
  · have hRn : R = none := by rw [HR3.out, if_neg heq]
    subst hRn
    have e1 : ((bs tx).toList == (bs t).toList) = false := by rw [bs_eq]; exact decide_eq_false heq
    have e2 : ((bs tx).toList != (bs t).toList) = true := by simp only [bne, e1]; rfl
    clear heq HR3 x0 x1 x2 x3 x4 hlx rx
    go_wp2_with fail
    refine bp_gen (fun W' => Below w.heap.size w W' ∧ RowB W' (w.heap.size + 1) 28 [.int .i64 0, .int .i64 0, .int .i64 0, .slice none 0 0, .int .i64 0]) ⟨below_five K.bel (by omega) _ _ _ _ _, five K.re _ _ _ _ _⟩ ?_
    rintro w8 ⟨hb8, r8⟩
    obtain ⟨z0, z1, z2, z3, z4⟩ := r8.c5
    refine bodyPost_ret (v := .tuple #[.agg #[.int .i64 0, .int .i64 0, .int .i64 0, .slice none 0 0, .int .i64 0], .bool false]) (by simp [results, Tryz.results9, go_sem, z0, z1, z2, z3, z4]) rfl ?_
    exact ⟨0, 0, 0, _, [], 0, false, rfl, OwnS.nil_ _ _ _ _ _ _, hb8, rfl, rfl, rfl, rfl, rfl, rfl⟩
end Go.Proofs.YtlfdcefgelpgmaaGreatDoor.TxI
