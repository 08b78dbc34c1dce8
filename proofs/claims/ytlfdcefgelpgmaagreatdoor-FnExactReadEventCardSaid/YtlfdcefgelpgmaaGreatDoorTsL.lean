/-
  ReadEvent of the reference: what it returns; the law's helpers over an event. Conditions: each theorem's own.
-/
import Derived.Test.YtlfdcefgelpgmaaGreatDoorTsK
import Derived.Test.YtlfdcefgelpgmaaGreatDoorBd36
set_option linter.unusedVariables false
set_option linter.unusedSimpArgs false
namespace Go.Proofs.YtlfdcefgelpgmaaGreatDoor.TsI
open Go.ChangeShapes Go.WideShapes Go.ChangeAt Go.RowKit Base Ints Own JoinN PlP TxP Num Bd1 Bd5 RegF RegG TxI Bd36

set_option maxHeartbeats 4000000 in
set_option maxRecDepth 100000 in
theorem revent_s (v : Vr) (t : By) (hl : t.length ≤ 4194304) (w : World) :
    Calls Tryz.prog 11 #[.agg #[.int .i64 v.p, .int .i64 v.c, .int .i64 v.h, .int .i64 v.s], .string (bs t)] w fun e w' => EvR (rdEv v t) w e w' := by
  obtain ⟨okv, hok⟩ : ∃ o, okV v = o := ⟨_, rfl⟩
  have CV := Lib.hid (fun w9 => var_s v okv hok w9)
  obtain ⟨R, hR⟩ : ∃ x, rdEv v t = x := ⟨_, rfl⟩
  rw [hR]
  have HR := Lib.hid hR
  have HO := Lib.hid hok
  have CP := Lib.hid (fun (hv : okV v = true) (w9 : World) => lread_s v hv t hl w9)
  clear hR hok
  go_enter Tryz.func11, Tryz.ntmps11
  go_upto_region 1 with (fail)
  refine wp_gen (fun W' => Bve w W' v [.int .i64 0, .int .i64 0, .int .i64 0, .slice none 0 0, .int .i64 0]) ⟨by go_grown, (RowB.new _ _ _).alloc _, RowB.new' _ _ _ (by simp)⟩ ?_
  intro w1 K
  obtain ⟨q0, q1, q2, q3⟩ := K.rv.c4
  have hlv := K.rv.lt
  go_wp2_with fail
  refine (CV.out _).mono ?_
  rintro e w2 ⟨rfl, hb⟩
  have K := K.below hb
  clear q0 q1 q2 q3 hlv hb CV
  have hle := K.re.lt
  have fre := K.re.frozen
  obtain ⟨y0, y1, y2, y3, y4⟩ := K.re.c5
  cases okv
  case false =>
    have hRn : R = none := by rw [← HR.out]; unfold rdEv; rw [HO.out]; rfl
    subst hRn
    clear HR
    go_wp2_with fail
    refine bp_gen (fun W' => Below w.heap.size w W' ∧ RowB W' (w.heap.size + 1) 28 [.int .i64 0, .int .i64 0, .int .i64 0, .slice none 0 0, .int .i64 0]) ⟨below_five K.bel (by omega) _ _ _ _ _, five K.re _ _ _ _ _⟩ ?_
    rintro w8 ⟨hb8, r8⟩
    obtain ⟨z0, z1, z2, z3, z4⟩ := r8.c5
    refine bodyPost_ret (v := .tuple #[.agg #[.int .i64 0, .int .i64 0, .int .i64 0, .slice none 0 0, .int .i64 0], .bool false]) (by simp [results, Tryz.results11, go_sem, z0, z1, z2, z3, z4]) rfl ?_
    exact ⟨0, 0, 0, _, [], 0, false, rfl, OwnS.nil_ _ _ _ _ _ _, hb8, rfl, rfl, rfl, rfl, rfl, rfl⟩
  have hRE : rdE v t = R := by rw [← HR.out]; unfold rdEv; rw [HO.out]; rfl
  rw [hRE] at CP
  have HV := HO.out
  clear HR hRE
  obtain ⟨q0, q1, q2, q3⟩ := K.rv.c4
  have hlv := K.rv.lt
  go_wp2_with fail
  refine (CP.out HV _).mono ?_
  rintro e w3 ⟨k, a, b, sv, ss, r, ok, rfl, hos, hb, hres⟩
  have hs23 := hb.size
  have hlo : w.heap.size + 2 ≤ w2.heap.size := hle
  have K := K.below hb
  clear q0 q1 q2 q3 hlv hb CP y0 y1 y2 y3 y4 hle fre
  obtain ⟨A, cp, hsv, _⟩ := hos.form enSt_len
  have HRES := Lib.hid hres
  obtain ⟨n, hn⟩ : ∃ n, ss.length = n := ⟨_, rfl⟩
  rw [hn] at hsv
  subst hsv
  have HOS := Lib.hid hos
  clear hres hn hos
  have hle := K.re.lt
  have fre := K.re.frozen
  obtain ⟨y0, y1, y2, y3, y4⟩ := K.re.c5
  go_wp2_with fail
  refine bp_gen (fun W' => Below w.heap.size w W' ∧ RowB W' (w.heap.size + 1) 28 [.int .i64 k, .int .i64 a, .int .i64 b, .slice A n cp, .int .i64 r] ∧ w3.heap.size ≤ W'.heap.size ∧ OwnS W' w2.heap.size w3.heap.size 91 4 enSt (.slice A n cp) ss) ⟨below_five K.bel (by omega) _ _ _ _ _, five K.re _ _ _ _ _, by simp, own_five HOS.out (by omega) _ _ _ _ _⟩ ?_
  rintro w8 ⟨hb8, r8, hs8, o8⟩
  obtain ⟨z0, z1, z2, z3, z4⟩ := r8.c5
  refine bodyPost_ret (v := .tuple #[.agg #[.int .i64 k, .int .i64 a, .int .i64 b, .slice A n cp, .int .i64 r], .bool ok]) (by simp [results, Tryz.results11, go_sem, z0, z1, z2, z3, z4]) rfl ?_
  exact ⟨k, a, b, _, ss, r, ok, rfl, (o8.less (by omega)).more hs8, hb8, HRES.out⟩

theorem ev_same {O : Option Ev} {k a b r k2 a2 b2 r2 : Int} {ss ss2 : List Stp} {ok ok2 : Bool}
    (h1 : if ok = true then O = some ⟨k, a, b, ss, r⟩ else O = none ∧ k = 0 ∧ a = 0 ∧ b = 0 ∧ ss = [] ∧ r = 0)
    (h2 : if ok2 = true then O = some ⟨k2, a2, b2, ss2, r2⟩ else O = none ∧ k2 = 0 ∧ a2 = 0 ∧ b2 = 0 ∧ ss2 = [] ∧ r2 = 0) :
    k = k2 ∧ a = a2 ∧ b = b2 ∧ ss = ss2 ∧ r = r2 ∧ ok = ok2 := by
  cases ok <;> cases ok2 <;> simp only [if_true, if_false, Bool.false_eq_true] at h1 h2
  · obtain ⟨_, rfl, rfl, rfl, rfl, rfl⟩ := h1
    obtain ⟨_, rfl, rfl, rfl, rfl, rfl⟩ := h2
    exact ⟨rfl, rfl, rfl, rfl, rfl, rfl⟩
  · rw [h1.1] at h2; cases h2
  · rw [h2.1] at h1; cases h1
  · rw [h1] at h2
    simp only [Option.some.injEq, Ev.mk.injEq] at h2
    obtain ⟨rfl, rfl, rfl, rfl, rfl⟩ := h2
    exact ⟨rfl, rfl, rfl, rfl, rfl, rfl⟩
theorem toV' (v : Vr) (w : World) : Calls Tryz.prog 12 #[.agg #[.int .i64 v.p, .int .i64 v.c, .int .i64 v.h, .int .i64 v.s]] w fun e w' => e = .returned (.agg #[.int .i64 v.p, .int .i64 v.c, .int .i64 v.h, .int .i64 v.s]) ∧ Below w.heap.size w w' := by
  go_enter Tryz.func12, Tryz.ntmps12
  go_wp2
  go_returns
  exact ⟨rfl, by go_grown⟩
set_option maxHeartbeats 1000000 in
theorem eqE (k a b r : Int) (A1 A2 : Option Addr) (c1 c2 B1 B2 : Nat) (n : Nat) (xs : List Stp) (w : World) (hn : xs.length = n) (hB1 : B1 ≤ w.heap.size) (hB2 : B2 ≤ w.heap.size) (h1 : RdS w B1 4 enSt A1 xs) (h2 : RdS w B2 4 enSt A2 xs) :
    Calls Tryz.prog 13 #[.agg #[.int .i64 k, .int .i64 a, .int .i64 b, .slice A1 n c1, .int .i64 r], .agg #[.int .i64 k, .int .i64 a, .int .i64 b, .slice A2 n c2, .int .i64 r]] w fun e w' => e = .returned (.bool true) ∧ Below w.heap.size w w' := by
  have CE := Lib.hid (fun (w9 : World) (hb : Below w.heap.size w w9) => eqS B1 B2 A1 A2 c1 c2 xs w9 (h1.below hb hB1) (h2.below hb hB2) (Nat.le_trans hB1 hb.size) (Nat.le_trans hB2 hb.size))
  rw [hn] at CE
  have ek : (k != k) = false := by simp
  have ea : (a != a) = false := by simp
  have eb : (b != b) = false := by simp
  have er : (r != r) = false := by simp
  clear hn h1 h2
  go_enter Tryz.func13, Tryz.ntmps13
  go_upto_region 1 with (fail)
  refine wp_gen (fun W' => Below w.heap.size w W' ∧ RowB W' w.heap.size 28 [.int .i64 k, .int .i64 a, .int .i64 b, .slice A1 n c1, .int .i64 r] ∧ RowB W' (w.heap.size + 1) 28 [.int .i64 k, .int .i64 a, .int .i64 b, .slice A2 n c2, .int .i64 r]) ⟨by go_grown, (RowB.new _ _ _).alloc _, RowB.new' _ _ _ (by simp)⟩ ?_
  rintro w1 ⟨hb1, r1, r2⟩
  obtain ⟨x0, x1, x2, x3, x4⟩ := r1.c5
  obtain ⟨y0, y1, y2, y3, y4⟩ := r2.c5
  go_wp2_with fail
  refine (CE.out _ hb1).mono ?_
  rintro e w2 ⟨rfl, hb2⟩
  have hb3 := hb1.trans (hb2.mono hb1.size)
  have r1 := r1.below hb2 r1.lt
  have r2 := r2.below hb2 r2.lt
  clear x0 x1 x2 x3 x4 y0 y1 y2 y3 y4
  obtain ⟨x0, x1, x2, x3, x4⟩ := r1.c5
  obtain ⟨y0, y1, y2, y3, y4⟩ := r2.c5
  go_wp2_with fail
  go_ret
  exact ⟨rfl, hb3⟩
set_option maxHeartbeats 1000000 in
theorem markE (k a b r : Int) (A : Option Addr) (n c m lo hi : Nat) (xs : List Stp) (w : World) (hln : xs.length = n) (hn : n ≤ 1048576) (hk : m ≤ 16777216) (hhi : hi ≤ w.heap.size) (h : OwnS w lo hi 91 4 enSt (.slice A n c) xs) :
    Calls Tryz.prog 14 #[.agg #[.int .i64 k, .int .i64 a, .int .i64 b, .slice A n c, .int .i64 r], .int .i64 m] w fun e w' => e = .returned (.int .i64 ((m + n * 4 : Nat) : Int)) ∧ w.grownBy w' (Value.slice A n c).ownBlock ∧ OwnS w' lo hi 91 4 enSt (.slice A n c) (markL m n) := by
  have CM := Lib.hid (fun (w9 : World) (h9 : OwnS w9 lo hi 91 4 enSt (.slice A n c) xs) => markS lo hi (.slice A n c) m xs w9 (by omega) hk h9)
  rw [hln] at CM
  have H := Lib.hid h
  clear h hln
  go_enter Tryz.func14, Tryz.ntmps14
  go_upto_region 1 with (fail)
  refine wp_gen (fun W' => w.grownBy W' (Value.slice A n c).ownBlock ∧ RowB W' w.heap.size 28 [.int .i64 k, .int .i64 a, .int .i64 b, .slice A n c, .int .i64 r] ∧ OwnS W' lo hi 91 4 enSt (.slice A n c) xs) ⟨World.grownBy_alloc _ _ _, RowB.new _ _ _, H.out.alloc _⟩ ?_
  rintro w1 ⟨hb1, r1, o1⟩
  obtain ⟨x0, x1, x2, x3, x4⟩ := r1.c5
  have O1 := Lib.hid o1
  clear o1
  go_wp2_with fail
  refine (CM.out _ O1.out).mono ?_
  rintro e w2 ⟨rfl, hb2, o2⟩
  have O2 := Lib.hid o2
  have hb3 := Lib.hid (Base.grownBy_trans hb1 hb2)
  clear x0 x1 x2 x3 x4 o2 hb2 hb1
  go_wp2_with fail
  go_ret
  exact ⟨rfl, hb3.out, O2.out⟩
set_option maxHeartbeats 1000000 in
theorem heldE (k a b r : Int) (A : Option Addr) (n c m B : Nat) (w : World) (hn : n ≤ 1048576) (hk : m ≤ 16777216) (hB : B ≤ w.heap.size) (h : RdS w B 4 enSt A (markL m n)) :
    Calls Tryz.prog 15 #[.agg #[.int .i64 k, .int .i64 a, .int .i64 b, .slice A n c, .int .i64 r], .int .i64 m] w fun e w' => e = .returned (.int .i64 ((m + n * 4 : Nat) : Int)) ∧ Below w.heap.size w w' := by
  have CH := Lib.hid (fun (w9 : World) (hb : Below w.heap.size w w9) => heldS B A c m n w9 hn hk (h.below hb hB))
  obtain ⟨q, hq⟩ : ∃ q : Int, ((m + n * 4 : Nat) : Int) = q := ⟨_, rfl⟩
  rw [hq] at CH ⊢
  have hneg : ¬ q < 0 := by omega
  clear hq h
  go_enter Tryz.func15, Tryz.ntmps15
  go_upto_region 1 with (fail)
  refine wp_gen (fun W' => Below w.heap.size w W' ∧ RowB W' w.heap.size 28 [.int .i64 k, .int .i64 a, .int .i64 b, .slice A n c, .int .i64 r]) ⟨by go_grown, RowB.new _ _ _⟩ ?_
  rintro w1 ⟨hb1, r1⟩
  obtain ⟨x0, x1, x2, x3, x4⟩ := r1.c5
  go_wp2_with fail
  refine (CH.out _ hb1).mono ?_
  rintro e w2 ⟨rfl, rfl⟩
  go_wp2_with fail
  go_ret
  exact ⟨rfl, hb1⟩
end Go.Proofs.YtlfdcefgelpgmaaGreatDoor.TsI
