/-
  RunClock, of the program and of the reference. Conditions: each theorem's own.
-/
import Derived.Test.YtdjopnhbcchedaaClockA
import Derived.Test.YtdjopnhbcchedaaClockStart
import Derived.Test.YtdjopnhbcchedaaBase2
set_option linter.unusedVariables false
namespace Go.Proofs.Ytdjopnhbcchedaa.ClockRun
open Go.ChangeShapes Go.WideShapes Go.ChangeAt Go.RowKit Base Base2 Ints Own Clock ClockSt ClockR ClockT Clone Draw ClockA ClockStart

/-- The events from the k-th on, applied to a state: the last state, how many were applied, the code. -/
def rcGo (r d b : Int) : List (Int × Int) → Nat → List Int × Int × Int × Int × Bool × Int → (List Int × Int × Int × Int × Bool × Int) × Int × Int
  | [], k, s => (s, (k : Int), 0)
  | ev :: es, k, s => match apR r d b s.1 s.2.1 s.2.2.1 s.2.2.2.1 s.2.2.2.2.1 s.2.2.2.2.2 ev.1 ev.2 with
    | (gs, tu, si, us, ru, fa, co) => if co = 0 then rcGo r d b es (k + 1) (gs, tu, si, us, ru, fa) else (s, (k : Int), co)
def rcR (r d b turn time : Int) (evs : List (Int × Int)) : (List Int × Int × Int × Int × Bool × Int) × Int × Int :=
  match stR r d b turn time with
  | (gs, tu, si, us, ru, fa, co) => if co = 0 then (if evs.length ≤ 80 then rcGo r d b evs 0 (gs, tu, si, us, ru, fa) else (([], 0, 0, 0, false, 0), 0, 3)) else (([], 0, 0, 0, false, 0), 0, co)
theorem rcGo_end (r d b : Int) (evs : List (Int × Int)) (k : Nat) (s : List Int × Int × Int × Int × Bool × Int) (h : evs.length ≤ k) : rcGo r d b (evs.drop k) k s = (s, (k : Int), 0) := by
  rw [List.drop_of_length_le h]; rfl
theorem rcGo_step {r d b : Int} {evs : List (Int × Int)} {k : Nat} {s : List Int × Int × Int × Int × Bool × Int} {p q : Int} (h : evs[k]? = some (p, q)) {gs : List Int} {tu si us : Int} {ru : Bool} {fa co : Int}
    (ha : apR r d b s.1 s.2.1 s.2.2.1 s.2.2.2.1 s.2.2.2.2.1 s.2.2.2.2.2 p q = (gs, tu, si, us, ru, fa, co)) :
    rcGo r d b (evs.drop k) k s = if co = 0 then rcGo r d b (evs.drop (k + 1)) (k + 1) (gs, tu, si, us, ru, fa) else (s, (k : Int), co) := by
  have hk := (List.getElem?_eq_some_iff.1 h)
  obtain ⟨hk1, hk2⟩ := hk
  rw [List.drop_eq_getElem_cons hk1, hk2]
  show (match apR r d b s.1 s.2.1 s.2.2.1 s.2.2.2.1 s.2.2.2.2.1 s.2.2.2.2.2 p q with | (gs, tu, si, us, ru, fa, co) => if co = 0 then rcGo r d b (evs.drop (k + 1)) (k + 1) (gs, tu, si, us, ru, fa) else (s, (k : Int), co)) = _
  rw [ha]
/-- Copying a state's box. -/
theorem six {W : World} {g : Nat} {t : TypeId} {a b c d e f : Value} (h : RowB W g t [a, b, c, d, e, f]) (u v w x y z : Value) : RowB ((((((W.setCell ⟨g, 0, none⟩ u).setCell ⟨g, 1, none⟩ v).setCell ⟨g, 2, none⟩ w).setCell ⟨g, 3, none⟩ x).setCell ⟨g, 4, none⟩ y).setCell ⟨g, 5, none⟩ z) g t [u, v, w, x, y, z] :=
  (((((h.set 0 _).set 1 _).set 2 _).set 3 _).set 4 _).set 5 _
theorem grown_six (W : World) (g : Nat) (u v w x y z : Value) : W.grownBy ((((((W.setCell ⟨g, 0, none⟩ u).setCell ⟨g, 1, none⟩ v).setCell ⟨g, 2, none⟩ w).setCell ⟨g, 3, none⟩ x).setCell ⟨g, 4, none⟩ y).setCell ⟨g, 5, none⟩ z) (some g) :=
  grownBy_trans (grownBy_trans (grownBy_trans (grownBy_trans (grownBy_trans (grownBy_setCell _ _ _ _) (grownBy_setCell _ _ _ _)) (grownBy_setCell _ _ _ _)) (grownBy_setCell _ _ _ _)) (grownBy_setCell _ _ _ _)) (grownBy_setCell _ _ _ _)
/-- Under way: boxes of the rules (w.heap.size), of the result (next), of the state (g); the state's own row. -/
structure Rn (w W : World) (r d b : Int) (g : Nat) (A : Option Addr) (cp lo hi : Nat) (gs : List Int) (tu si us : Int) (ru : Bool) (fa : Int) (B : Nat) (Ae : Option Addr) (evs : List (Int × Int)) : Prop where
  rr : RowB W w.heap.size 25 [.int .i64 r, .int .i64 d, .int .i64 b]
  ro : RowB W (w.heap.size + 1) 30 [.slice none 0 0, .int .i64 0, .int .i64 0, .int .i64 0, .bool false, .int .i64 0]
  rx : RowB W g 30 [.slice A gs.length cp, .int .i64 tu, .int .i64 si, .int .i64 us, .bool ru, .int .i64 fa]
  own : OwnS W lo hi 2 1 enI (.slice A gs.length cp) gs
  hhi : hi ≤ W.heap.size
  hlo : w.heap.size + 2 ≤ lo
  far : g < lo ∨ hi ≤ g
  hg : w.heap.size + 2 ≤ g
  rd : RdS W B 2 enI2 Ae evs
  hB : B ≤ w.heap.size
  bel : Below w.heap.size w W
theorem Rn.below {w W W' : World} {r d b : Int} {g : Nat} {A : Option Addr} {cp lo hi : Nat} {gs : List Int} {tu si us : Int} {ru : Bool} {fa : Int} {B : Nat} {Ae : Option Addr} {evs : List (Int × Int)} (h : Rn w W r d b g A cp lo hi gs tu si us ru fa B Ae evs) (hb : Below W.heap.size W W') :
    Rn w W' r d b g A cp lo hi gs tu si us ru fa B Ae evs :=
  ⟨h.rr.below hb h.rr.lt, h.ro.below hb h.ro.lt, h.rx.below hb h.rx.lt, h.own.below hb h.hhi, Nat.le_trans h.hhi hb.size, h.hlo, h.far, h.hg, h.rd.below hb (Nat.le_trans h.hB h.bel.size), h.hB, h.bel.trans (hb.mono h.bel.size)⟩
theorem Rn.put {w W W' : World} {r d b : Int} {g : Nat} {A A' : Option Addr} {cp lo hi cp' lo' hi' : Nat} {gs gs' : List Int} {tu si us tu' si' us' : Int} {ru ru' : Bool} {fa fa' : Int} {B : Nat} {Ae : Option Addr} {evs : List (Int × Int)} (h : Rn w W r d b g A cp lo hi gs tu si us ru fa B Ae evs)
    (rx : RowB W' g 30 [.slice A' gs'.length cp', .int .i64 tu', .int .i64 si', .int .i64 us', .bool ru', .int .i64 fa']) (own : OwnS W lo' hi' 2 1 enI (.slice A' gs'.length cp') gs') (hhi : hi' ≤ W.heap.size) (hlo : g < lo') (hgr : W.grownBy W' (some g)) :
    Rn w W' r d b g A' cp' lo' hi' gs' tu' si' us' ru' fa' B Ae evs :=
  have hg := h.hg
  have hb := h.bel.size
  have hB := h.hB
  ⟨h.rr.grown hgr (fun k hk => by simp at hk; omega), h.ro.grown hgr (fun k hk => by simp at hk; omega), rx, own.grown hgr (fun k hk => by simp at hk; omega), Nat.le_trans hhi hgr.size, by omega, .inl hlo, h.hg, h.rd.grown hgr (by omega) (fun k hk => by simp at hk; omega), h.hB, h.bel.grown hgr hb (fun k hk => by simp at hk; omega)⟩

set_option maxHeartbeats 16000000 in
set_option maxRecDepth 100000 in
theorem rc_impl (r d b turn time : Int) (Ae : Option Addr) (ce B : Nat) (evs : List (Int × Int)) (w : World) (gs : List Int) (tu si us : Int) (ru : Bool) (fa nn co : Int) (hB : B ≤ w.heap.size) (hr : RdS w B 2 enI2 Ae evs) (h : rcR r d b turn time evs = ((gs, tu, si, us, ru, fa), nn, co)) :
    Calls Try.prog 31 #[.agg #[.int .i64 r, .int .i64 d, .int .i64 b], .int .i64 turn, .int .i64 time, .slice Ae evs.length ce] w fun e w' => ∃ A cp, e = .returned (.tuple #[.agg #[.slice A gs.length cp, .int .i64 tu, .int .i64 si, .int .i64 us, .bool ru, .int .i64 fa], .int .i64 nn, .int .i64 co]) ∧ Below w.heap.size w w' ∧ OwnS w' w.heap.size w'.heap.size 2 1 enI (.slice A gs.length cp) gs := by
  have hml := hr.len
  rcases hst : stR r d b turn time with ⟨gs0, tu0, si0, us0, ru0, fa0, co0⟩
  unfold rcR at h
  rw [hst] at h
  simp only at h
  have HST := Lib.hid hst; clear hst
  obtain ⟨N, hN⟩ : ∃ N, evs.length = N := ⟨_, rfl⟩
  rw [hN] at h hml
  rw [hN]
  have HN := Lib.hid hN; clear hN
  have ec : (co0 != 0) = !decide (co0 = 0) := by by_cases hh : co0 = 0 <;> simp [hh]
  have EC := Lib.hid ec; clear ec
  have H := Lib.hid h; clear h
  go_enter Try.func31, Try.ntmps31
  go_wp2_with fail
  refine (st_impl r d b turn time _ gs0 tu0 si0 us0 ru0 fa0 co0 HST.out).mono ?_
  rintro e w1 ⟨A0, cp0, rfl, hb1, o1⟩
  have rr := ((RowB.new _ _ _).alloc _).below hb1 (by simp; try omega)
  have ro := (RowB.new _ _ _).below hb1 (by simp; try omega)
  have q1 : Below w.heap.size w w1 := Below.then_ (by go_grown) hb1 (by simp; omega)
  simp only [World.size_alloc] at ro o1
  have hr := hr.below q1 hB
  have l1 := ro.lt
  clear hb1
  have K0 : Rn w (w1.alloc (.cells #[.slice A0 gs0.length cp0, .int .i64 tu0, .int .i64 si0, .int .i64 us0, .bool ru0, .int .i64 fa0] 30)) r d b w1.heap.size A0 cp0 (w.heap.size + 1 + 1) w1.heap.size gs0 tu0 si0 us0 ru0 fa0 B Ae evs := ⟨rr.alloc _, ro.alloc _, RowB.new _ _ _, o1.alloc _, by go_size, by omega, .inr (Nat.le_refl _), by omega, hr.below ((Below.refl _ _).alloc (Nat.le_refl _) _) (by omega), hB, q1.trans ((Below.refl _ _).alloc q1.size _)⟩
  have HG : w.heap.size + 2 ≤ w1.heap.size := by omega
  go_upto_region 2 with (fail)
  refine wpS (fun W' => Rn w W' r d b w1.heap.size A0 cp0 (w.heap.size + 1 + 1) w1.heap.size gs0 tu0 si0 us0 ru0 fa0 B Ae evs) K0 ?_
  clear K0 rr ro o1 hr q1
  rintro w2 K
  have ro := K.ro
  have qq := K.bel
  by_cases hc : co0 = 0
  case neg =>
    have h := H.out
    rw [if_neg hc] at h
    simp only [Prod.mk.injEq] at h
    obtain ⟨⟨rfl, rfl, rfl, rfl, rfl, rfl⟩, rfl, rfl⟩ := h
    have ec : (co0 != 0) = true := by simp [hc]
    obtain ⟨z0, z1, z2, z3, z4, z5⟩ := ro.c6
    have hfz := ro.frozen
    go_wp2_with fail
    refine bp_gen (fun W5 => RowB W5 (w.heap.size + 1) 30 [.slice none 0 0, .int .i64 0, .int .i64 0, .int .i64 0, .bool false, .int .i64 0] ∧ Below w.heap.size w W5) ⟨by first | exact six ro _ _ _ _ _ _ | exact six (ro.alloc _) _ _ _ _ _ _ | exact RowB.alloc (six ro _ _ _ _ _ _) _, by go_grown⟩ ?_
    clear z0 z1 z2 z3 z4 z5 hfz ro
    rintro W5 ⟨ro, q5⟩
    obtain ⟨z0, z1, z2, z3, z4, z5⟩ := ro.c6
    refine bodyPost_ret (v := .tuple #[.agg #[.slice none 0 0, .int .i64 0, .int .i64 0, .int .i64 0, .bool false, .int .i64 0], .int .i64 0, .int .i64 co0]) (by simp [results, Try.results31, go_sem, z0, z1, z2, z3, z4, z5]) rfl ?_
    exact ⟨none, 0, rfl, q5, OwnS.nil_ _ _ _ _ _ _⟩
  subst hc
  have e0 : ((0 : Int) != 0) = false := rfl
  by_cases hN : N ≤ 80
  case neg =>
    have h := H.out
    rw [if_pos rfl, if_neg hN] at h
    simp only [Prod.mk.injEq] at h
    obtain ⟨⟨rfl, rfl, rfl, rfl, rfl, rfl⟩, rfl, rfl⟩ := h
    have hgt : (80 : Int) < (N : Int) := by omega
    obtain ⟨z0, z1, z2, z3, z4, z5⟩ := ro.c6
    have hfz := ro.frozen
    go_wp2_with fail
    refine bp_gen (fun W5 => RowB W5 (w.heap.size + 1) 30 [.slice none 0 0, .int .i64 0, .int .i64 0, .int .i64 0, .bool false, .int .i64 0] ∧ Below w.heap.size w W5) ⟨by first | exact six ro _ _ _ _ _ _ | exact six (ro.alloc _) _ _ _ _ _ _ | exact RowB.alloc (six ro _ _ _ _ _ _) _, by go_grown⟩ ?_
    clear z0 z1 z2 z3 z4 z5 hfz ro
    rintro W5 ⟨ro, q5⟩
    obtain ⟨z0, z1, z2, z3, z4, z5⟩ := ro.c6
    refine bodyPost_ret (v := .tuple #[.agg #[.slice none 0 0, .int .i64 0, .int .i64 0, .int .i64 0, .bool false, .int .i64 0], .int .i64 0, .int .i64 3]) (by simp [results, Try.results31, go_sem, z0, z1, z2, z3, z4, z5]) rfl ?_
    exact ⟨none, 0, rfl, q5, OwnS.nil_ _ _ _ _ _ _⟩
  have h : rcGo r d b (evs.drop 0) 0 (gs0, tu0, si0, us0, ru0, fa0) = ((gs, tu, si, us, ru, fa), nn, co) := by
    have h := H.out
    rw [if_pos rfl, if_pos hN] at h
    exact h
  have HH := Lib.hid h; clear h
  have hgt : decide ((80 : Int) < (N : Int)) = false := decide_eq_false (by omega)
  clear EC H
  go_wp2_with fail
  go_loopw [34] (fun i wr => ∃ (k : Nat) (A : Option Addr) (cp lo hi : Nat) (gs' : List Int) (tu' si' us' : Int) (ru' : Bool) (fa' : Int), k ≤ N ∧ i = .int .i64 k ∧ Rn w wr r d b w1.heap.size A cp lo hi gs' tu' si' us' ru' fa' B Ae evs ∧ Hid (rcGo r d b (evs.drop k) k (gs', tu', si', us', ru', fa') = ((gs, tu, si, us, ru, fa), nn, co))) (fun i _ => N - (intOf i).toNat)
  case atStart => exact ⟨0, A0, cp0, _, _, gs0, tu0, si0, us0, ru0, fa0, Nat.zero_le _, rfl, K, HH⟩
  case round =>
    clear K HH ro qq
    obtain ⟨k, A, cp, lo, hi, gs', tu', si', us', ru', fa', hk, rfl, K, HH⟩ := hrel
    obtain ⟨x0, x1, x2, x3, x4, x5⟩ := K.rx.c6
    obtain ⟨k0, k1, k2⟩ := K.rr.c3
    have lx := K.rx.lt
    have lr := K.rr.lt
    by_cases hlt : k < N
    · obtain ⟨bk, off, p, q, rfl, hbk, hx, c0, c1⟩ := rdI2_at K.rd (by rw [HN.out]; exact hlt)
      have HX := Lib.hid hx; clear hx
      have hbw : bk < wr.heap.size := by have := K.hB; have := K.bel.size; omega
      rcases hap : apR r d b gs' tu' si' us' ru' fa' p q with ⟨gs2, tu2, si2, us2, ru2, fa2, co2⟩
      have hgo := Lib.hid ((rcGo_step HX.out (s := (gs', tu', si', us', ru', fa')) hap).symm.trans HH.out)
      have HAP := Lib.hid hap; clear hap HH HX
      go_wp2_with fail
      clear x0 x1 x2 x3 x4 x5 k0 k1 k2 c0 c1
      refine (ap_impl r d b A cp hi gs' tu' si' us' ru' fa' p q _ gs2 tu2 si2 us2 ru2 fa2 co2 (by have := K.hhi; go_size) (by exact (K.own.alloc _).rd enI_len) HAP.out).mono ?_
      rintro e w2 ⟨A2, cp2, rfl, hb2, o2⟩
      have t2 : Below wr.heap.size wr w2 := Below.then_ (by go_grown) hb2 (by go_size)
      have K := K.below t2
      have z2 := hb2.size
      have z2' := t2.size
      rw [World.size_alloc] at o2 z2
      have L2 : w1.heap.size < wr.heap.size + 1 := by omega
      clear t2 hb2
      go_upto_region 10 with (fail)
      refine wpS (fun W' => Rn w W' r d b w1.heap.size A cp lo hi gs' tu' si' us' ru' fa' B _ evs ∧ RowB W' w2.heap.size 30 [.slice A2 gs2.length cp2, .int .i64 tu2, .int .i64 si2, .int .i64 us2, .bool ru2, .int .i64 fa2] ∧ OwnS W' (wr.heap.size + 1) w2.heap.size 2 1 enI (.slice A2 gs2.length cp2) gs2) ⟨K.below ((Below.refl _ _).alloc (Nat.le_refl _) _), RowB.new _ _ _, o2.alloc _⟩ ?_
      clear K o2
      rintro w3 ⟨K, rn, o2⟩
      have ln := rn.lt
      by_cases hc2 : co2 = 0
      · subst hc2
        have e2 : ((0 : Int) != 0) = false := rfl
        obtain ⟨x0, x1, x2, x3, x4, x5⟩ := K.rx.c6
        have hfx := K.rx.frozen
        obtain ⟨n0, n1, n2, n3, n4, n5⟩ := rn.c6
        go_wp2_with fail
        go_roundw
        case rel =>
          refine ⟨k + 1, A2, cp2, wr.heap.size + 1, w2.heap.size, gs2, tu2, si2, us2, ru2, fa2, by omega, by go_num, ?_, by have := hgo.out; rw [if_pos rfl] at this; exact this⟩
          exact Rn.put K (six K.rx _ _ _ _ _ _) o2 (by omega) L2 (grown_six _ _ _ _ _ _ _ _)
        case measure => simp [intOf]; omega
      · have e2 : (co2 != 0) = true := by simp [hc2]
        have hgo := hgo.out
        rw [if_neg hc2] at hgo
        simp only [Prod.mk.injEq] at hgo
        obtain ⟨⟨rfl, rfl, rfl, rfl, rfl, rfl⟩, rfl, rfl⟩ := hgo
        obtain ⟨x0, x1, x2, x3, x4, x5⟩ := K.rx.c6
        have ro := K.ro
        obtain ⟨z0, z1, z2, z3, z4, z5⟩ := ro.c6
        have hfz := ro.frozen
        have qq := K.bel
        go_wp2_with fail
        refine bp_gen (fun W5 => RowB W5 (w.heap.size + 1) 30 [.slice A gs'.length cp, .int .i64 tu', .int .i64 si', .int .i64 us', .bool ru', .int .i64 fa'] ∧ Below w.heap.size w W5 ∧ OwnS W5 lo hi 2 1 enI (.slice A gs'.length cp) gs' ∧ hi ≤ W5.heap.size) ⟨by first | exact six ro _ _ _ _ _ _ | exact RowB.alloc (six ro _ _ _ _ _ _) _, by go_grown, ?_, by have := K.hhi; go_size⟩ ?_
        · have h1 := K.hlo
          first | exact K.own.grown (grown_six _ _ _ _ _ _ _ _) (fun k hk => by simp at hk; omega) | exact (K.own.grown (grown_six _ _ _ _ _ _ _ _) (fun k hk => by simp at hk; omega)).alloc _
        rintro W5 ⟨ro5, q5, o5, hh5⟩
        obtain ⟨z0, z1, z2, z3, z4, z5⟩ := ro5.c6
        refine bodyPost_ret (v := .tuple #[.agg #[.slice A gs'.length cp, .int .i64 tu', .int .i64 si', .int .i64 us', .bool ru', .int .i64 fa'], .int .i64 (k : Int), .int .i64 co2]) (by simp [results, Try.results31, go_sem, z0, z1, z2, z3, z4, z5]) rfl ?_
        exact ⟨_, _, rfl, q5, (o5.less (by have := K.hlo; omega)).more hh5⟩
    · obtain rfl : k = N := by omega
      have hgo := HH.out
      rw [rcGo_end _ _ _ _ _ _ (by rw [HN.out]; exact Nat.le_refl _)] at hgo
      simp only [Prod.mk.injEq] at hgo
      obtain ⟨⟨rfl, rfl, rfl, rfl, rfl, rfl⟩, rfl, rfl⟩ := hgo
      have ro := K.ro
      obtain ⟨z0, z1, z2, z3, z4, z5⟩ := ro.c6
      have hfz := ro.frozen
      have qq := K.bel
      go_wp2_with fail
      refine bp_gen (fun W5 => RowB W5 (w.heap.size + 1) 30 [.slice A gs'.length cp, .int .i64 tu', .int .i64 si', .int .i64 us', .bool ru', .int .i64 fa'] ∧ Below w.heap.size w W5 ∧ OwnS W5 lo hi 2 1 enI (.slice A gs'.length cp) gs' ∧ hi ≤ W5.heap.size) ⟨by first | exact six ro _ _ _ _ _ _ | exact RowB.alloc (six ro _ _ _ _ _ _) _, by go_grown, ?_, by have := K.hhi; go_size⟩ ?_
      · have h1 := K.hlo
        first | exact K.own.grown (grown_six _ _ _ _ _ _ _ _) (fun k hk => by simp at hk; omega) | exact (K.own.grown (grown_six _ _ _ _ _ _ _ _) (fun k hk => by simp at hk; omega)).alloc _
      rintro W5 ⟨ro5, q5, o5, hh5⟩
      obtain ⟨z0, z1, z2, z3, z4, z5⟩ := ro5.c6
      refine bodyPost_ret (v := .tuple #[.agg #[.slice A gs'.length cp, .int .i64 tu', .int .i64 si', .int .i64 us', .bool ru', .int .i64 fa'], .int .i64 (k : Int), .int .i64 0]) (by simp [results, Try.results31, go_sem, z0, z1, z2, z3, z4, z5]) rfl ?_
      exact ⟨_, _, rfl, q5, (o5.less (by have := K.hlo; omega)).more hh5⟩

set_option maxHeartbeats 16000000 in
set_option maxRecDepth 100000 in
theorem rc_spec (r d b turn time : Int) (Ae : Option Addr) (ce B : Nat) (evs : List (Int × Int)) (w : World) (gs : List Int) (tu si us : Int) (ru : Bool) (fa nn co : Int) (hB : B ≤ w.heap.size) (hr : RdS w B 2 enI2 Ae evs) (h : rcR r d b turn time evs = ((gs, tu, si, us, ru, fa), nn, co)) :
    Calls Try.prog 39 #[.agg #[.int .i64 r, .int .i64 d, .int .i64 b], .int .i64 turn, .int .i64 time, .slice Ae evs.length ce] w fun e w' => ∃ A cp, e = .returned (.tuple #[.agg #[.slice A gs.length cp, .int .i64 tu, .int .i64 si, .int .i64 us, .bool ru, .int .i64 fa], .int .i64 nn, .int .i64 co]) ∧ Below w.heap.size w w' ∧ OwnS w' w.heap.size w'.heap.size 2 1 enI (.slice A gs.length cp) gs := by
  have hml := hr.len
  rcases hst : stR r d b turn time with ⟨gs0, tu0, si0, us0, ru0, fa0, co0⟩
  unfold rcR at h
  rw [hst] at h
  simp only at h
  have HST := Lib.hid hst; clear hst
  obtain ⟨N, hN⟩ : ∃ N, evs.length = N := ⟨_, rfl⟩
  rw [hN] at h hml
  rw [hN]
  have HN := Lib.hid hN; clear hN
  have ec : (co0 != 0) = !decide (co0 = 0) := by by_cases hh : co0 = 0 <;> simp [hh]
  have EC := Lib.hid ec; clear ec
  have H := Lib.hid h; clear h
  go_enter Try.func39, Try.ntmps39
  go_wp2_with fail
  refine (st_spec r d b turn time _ gs0 tu0 si0 us0 ru0 fa0 co0 HST.out).mono ?_
  rintro e w1 ⟨A0, cp0, rfl, hb1, o1⟩
  have rr := ((RowB.new _ _ _).alloc _).below hb1 (by simp; try omega)
  have ro := (RowB.new _ _ _).below hb1 (by simp; try omega)
  have q1 : Below w.heap.size w w1 := Below.then_ (by go_grown) hb1 (by simp; omega)
  simp only [World.size_alloc] at ro o1
  have hr := hr.below q1 hB
  have l1 := ro.lt
  clear hb1
  have K0 : Rn w (w1.alloc (.cells #[.slice A0 gs0.length cp0, .int .i64 tu0, .int .i64 si0, .int .i64 us0, .bool ru0, .int .i64 fa0] 30)) r d b w1.heap.size A0 cp0 (w.heap.size + 1 + 1) w1.heap.size gs0 tu0 si0 us0 ru0 fa0 B Ae evs := ⟨rr.alloc _, ro.alloc _, RowB.new _ _ _, o1.alloc _, by go_size, by omega, .inr (Nat.le_refl _), by omega, hr.below ((Below.refl _ _).alloc (Nat.le_refl _) _) (by omega), hB, q1.trans ((Below.refl _ _).alloc q1.size _)⟩
  have HG : w.heap.size + 2 ≤ w1.heap.size := by omega
  go_upto_region 2 with (fail)
  refine wpS (fun W' => Rn w W' r d b w1.heap.size A0 cp0 (w.heap.size + 1 + 1) w1.heap.size gs0 tu0 si0 us0 ru0 fa0 B Ae evs) K0 ?_
  clear K0 rr ro o1 hr q1
  rintro w2 K
  have ro := K.ro
  have qq := K.bel
  by_cases hc : co0 = 0
  case neg =>
    have h := H.out
    rw [if_neg hc] at h
    simp only [Prod.mk.injEq] at h
    obtain ⟨⟨rfl, rfl, rfl, rfl, rfl, rfl⟩, rfl, rfl⟩ := h
    have ec : (co0 != 0) = true := by simp [hc]
    obtain ⟨z0, z1, z2, z3, z4, z5⟩ := ro.c6
    have hfz := ro.frozen
    go_wp2_with fail
    refine bp_gen (fun W5 => RowB W5 (w.heap.size + 1) 30 [.slice none 0 0, .int .i64 0, .int .i64 0, .int .i64 0, .bool false, .int .i64 0] ∧ Below w.heap.size w W5) ⟨by first | exact six ro _ _ _ _ _ _ | exact six (ro.alloc _) _ _ _ _ _ _ | exact RowB.alloc (six ro _ _ _ _ _ _) _, by go_grown⟩ ?_
    clear z0 z1 z2 z3 z4 z5 hfz ro
    rintro W5 ⟨ro, q5⟩
    obtain ⟨z0, z1, z2, z3, z4, z5⟩ := ro.c6
    refine bodyPost_ret (v := .tuple #[.agg #[.slice none 0 0, .int .i64 0, .int .i64 0, .int .i64 0, .bool false, .int .i64 0], .int .i64 0, .int .i64 co0]) (by simp [results, Try.results39, go_sem, z0, z1, z2, z3, z4, z5]) rfl ?_
    exact ⟨none, 0, rfl, q5, OwnS.nil_ _ _ _ _ _ _⟩
  subst hc
  have e0 : ((0 : Int) != 0) = false := rfl
  by_cases hN : N ≤ 80
  case neg =>
    have h := H.out
    rw [if_pos rfl, if_neg hN] at h
    simp only [Prod.mk.injEq] at h
    obtain ⟨⟨rfl, rfl, rfl, rfl, rfl, rfl⟩, rfl, rfl⟩ := h
    have hgt : (80 : Int) < (N : Int) := by omega
    obtain ⟨z0, z1, z2, z3, z4, z5⟩ := ro.c6
    have hfz := ro.frozen
    go_wp2_with fail
    refine bp_gen (fun W5 => RowB W5 (w.heap.size + 1) 30 [.slice none 0 0, .int .i64 0, .int .i64 0, .int .i64 0, .bool false, .int .i64 0] ∧ Below w.heap.size w W5) ⟨by first | exact six ro _ _ _ _ _ _ | exact six (ro.alloc _) _ _ _ _ _ _ | exact RowB.alloc (six ro _ _ _ _ _ _) _, by go_grown⟩ ?_
    clear z0 z1 z2 z3 z4 z5 hfz ro
    rintro W5 ⟨ro, q5⟩
    obtain ⟨z0, z1, z2, z3, z4, z5⟩ := ro.c6
    refine bodyPost_ret (v := .tuple #[.agg #[.slice none 0 0, .int .i64 0, .int .i64 0, .int .i64 0, .bool false, .int .i64 0], .int .i64 0, .int .i64 3]) (by simp [results, Try.results39, go_sem, z0, z1, z2, z3, z4, z5]) rfl ?_
    exact ⟨none, 0, rfl, q5, OwnS.nil_ _ _ _ _ _ _⟩
  have h : rcGo r d b (evs.drop 0) 0 (gs0, tu0, si0, us0, ru0, fa0) = ((gs, tu, si, us, ru, fa), nn, co) := by
    have h := H.out
    rw [if_pos rfl, if_pos hN] at h
    exact h
  have HH := Lib.hid h; clear h
  have hgt : decide ((80 : Int) < (N : Int)) = false := decide_eq_false (by omega)
  clear EC H
  go_wp2_with fail
  go_loopw [13] (fun i wr => ∃ (k : Nat) (A : Option Addr) (cp lo hi : Nat) (gs' : List Int) (tu' si' us' : Int) (ru' : Bool) (fa' : Int), k ≤ N ∧ i = .int .i64 k ∧ Rn w wr r d b w1.heap.size A cp lo hi gs' tu' si' us' ru' fa' B Ae evs ∧ Hid (rcGo r d b (evs.drop k) k (gs', tu', si', us', ru', fa') = ((gs, tu, si, us, ru, fa), nn, co))) (fun i _ => N - (intOf i).toNat)
  case atStart => exact ⟨0, A0, cp0, _, _, gs0, tu0, si0, us0, ru0, fa0, Nat.zero_le _, rfl, K, HH⟩
  case round =>
    clear K HH ro qq
    obtain ⟨k, A, cp, lo, hi, gs', tu', si', us', ru', fa', hk, rfl, K, HH⟩ := hrel
    obtain ⟨x0, x1, x2, x3, x4, x5⟩ := K.rx.c6
    obtain ⟨k0, k1, k2⟩ := K.rr.c3
    have lx := K.rx.lt
    have lr := K.rr.lt
    by_cases hlt : k < N
    · obtain ⟨bk, off, p, q, rfl, hbk, hx, c0, c1⟩ := rdI2_at K.rd (by rw [HN.out]; exact hlt)
      have HX := Lib.hid hx; clear hx
      have hbw : bk < wr.heap.size := by have := K.hB; have := K.bel.size; omega
      rcases hap : apR r d b gs' tu' si' us' ru' fa' p q with ⟨gs2, tu2, si2, us2, ru2, fa2, co2⟩
      have hgo := Lib.hid ((rcGo_step HX.out (s := (gs', tu', si', us', ru', fa')) hap).symm.trans HH.out)
      have HAP := Lib.hid hap; clear hap HH HX
      have HS : Hid (∀ w' : World, Below wr.heap.size wr w' → (w'.cell? ⟨w.heap.size, 0, none⟩ = some (.int .i64 r) ∧ w'.cell? ⟨w.heap.size, 1, none⟩ = some (.int .i64 d) ∧ w'.cell? ⟨w.heap.size, 2, none⟩ = some (.int .i64 b)) ∧ (w'.cell? ⟨w1.heap.size, 0, none⟩ = some (.slice A gs'.length cp) ∧ w'.cell? ⟨w1.heap.size, 1, none⟩ = some (.int .i64 tu') ∧ w'.cell? ⟨w1.heap.size, 2, none⟩ = some (.int .i64 si') ∧ w'.cell? ⟨w1.heap.size, 3, none⟩ = some (.int .i64 us') ∧ w'.cell? ⟨w1.heap.size, 4, none⟩ = some (.bool ru') ∧ w'.cell? ⟨w1.heap.size, 5, none⟩ = some (.int .i64 fa')) ∧ (w'.cell? ⟨bk, off + k * 2, none⟩ = some (.int .i64 p) ∧ w'.cell? ⟨bk, off + k * 2 + 1, none⟩ = some (.int .i64 q))) := fun w' hb => ⟨(K.rr.below hb lr).c3, (K.rx.below hb lx).c6, (hb.cell (p := ⟨bk, off + k * 2, none⟩) hbw).trans c0, (hb.cell (p := ⟨bk, off + k * 2 + 1, none⟩) hbw).trans c1⟩
      go_wp2_with fail
      clear x0 x1 x2 x3 x4 x5 k0 k1 k2 c0 c1
      have rz : True := trivial
      go_region_held3 (fun w' => (w'.cell? ⟨w.heap.size, 0, none⟩ = some (.int .i64 r) ∧ w'.cell? ⟨w.heap.size, 1, none⟩ = some (.int .i64 d) ∧ w'.cell? ⟨w.heap.size, 2, none⟩ = some (.int .i64 b)) ∧ (w'.cell? ⟨w1.heap.size, 0, none⟩ = some (.slice A gs'.length cp) ∧ w'.cell? ⟨w1.heap.size, 1, none⟩ = some (.int .i64 tu') ∧ w'.cell? ⟨w1.heap.size, 2, none⟩ = some (.int .i64 si') ∧ w'.cell? ⟨w1.heap.size, 3, none⟩ = some (.int .i64 us') ∧ w'.cell? ⟨w1.heap.size, 4, none⟩ = some (.bool ru') ∧ w'.cell? ⟨w1.heap.size, 5, none⟩ = some (.int .i64 fa')) ∧ (w'.cell? ⟨bk, off + k * 2, none⟩ = some (.int .i64 p) ∧ w'.cell? ⟨bk, off + k * 2 + 1, none⟩ = some (.int .i64 q))) (first | exact HS.out _ (by go_grown) | exact HS.out _ t2) (first | (go_at_call 34; refine (ap_spec r d b A cp hi gs' tu' si' us' ru' fa' p q _ gs2 tu2 si2 us2 ru2 fa2 co2 (by have := K.hhi; first | exact this | go_size) (by first | exact K.own.rd enI_len | exact (K.own.alloc _).rd enI_len) HAP.out).mono ?_; rintro e w2 ⟨A2, cp2, rfl, hb2, o2⟩; have t2 : Below wr.heap.size wr w2 := Below.then_ (by go_grown) hb2 (by go_size); have z2' := t2.size; (try (have rz := RowB.below (RowB.new wr _ _) hb2 (by go_size))); (try (have rz := RowB.below (RowB.drew (RowB.new wr _ _)) hb2 (by go_size))); (try (obtain ⟨y0, y1, y2, y3, y4, y5⟩ := rz.c6; have hfy := rz.frozen; have lz := rz.lt)); (first | (have lz := rz.lt; have o2 := OwnS.less (lo' := wr.heap.size + 1) o2 (by go_size)) | have o2 := OwnS.less (lo' := wr.heap.size) o2 (by go_size))) | fail)
      all_goals go_upto_region 10 with (fail)
      · have L2 : w1.heap.size < wr.heap.size := by omega
        refine wpS (fun W' => Rn w W' r d b w1.heap.size A cp lo hi gs' tu' si' us' ru' fa' B _ evs ∧ RowB W' w2.heap.size 30 [.slice A2 gs2.length cp2, .int .i64 tu2, .int .i64 si2, .int .i64 us2, .bool ru2, .int .i64 fa2] ∧ OwnS W' wr.heap.size w2.heap.size 2 1 enI (.slice A2 gs2.length cp2) gs2 ∧ w2.heap.size ≤ W'.heap.size) ⟨(K.below t2).below ((Below.refl _ _).alloc (Nat.le_refl _) _), RowB.new _ _ _, o2.alloc _, by go_size⟩ ?_
        clear K o2 t2 hb2 HS rz
        rintro w3 ⟨K, rn, o2, hw3⟩
        have ln := rn.lt
        by_cases hc2 : co2 = 0
        · subst hc2
          have e2 : ((0 : Int) != 0) = false := rfl
          obtain ⟨x0, x1, x2, x3, x4, x5⟩ := K.rx.c6
          have hfx := K.rx.frozen
          obtain ⟨n0, n1, n2, n3, n4, n5⟩ := rn.c6
          go_wp2_with fail
          go_roundw
          case rel =>
            refine ⟨k + 1, A2, cp2, wr.heap.size, w2.heap.size, gs2, tu2, si2, us2, ru2, fa2, by omega, by go_num, ?_, by have := hgo.out; rw [if_pos rfl] at this; exact this⟩
            exact Rn.put K (six K.rx _ _ _ _ _ _) o2 (by omega) L2 (grown_six _ _ _ _ _ _ _ _)
          case measure => simp [intOf]; omega
        · have e2 : (co2 != 0) = true := by simp [hc2]
          have hgo := hgo.out
          rw [if_neg hc2] at hgo
          simp only [Prod.mk.injEq] at hgo
          obtain ⟨⟨rfl, rfl, rfl, rfl, rfl, rfl⟩, rfl, rfl⟩ := hgo
          obtain ⟨x0, x1, x2, x3, x4, x5⟩ := K.rx.c6
          have ro := K.ro
          obtain ⟨z0, z1, z2, z3, z4, z5⟩ := ro.c6
          have hfz := ro.frozen
          have qq := K.bel
          go_wp2_with fail
          refine bp_gen (fun W5 => RowB W5 (w.heap.size + 1) 30 [.slice A gs'.length cp, .int .i64 tu', .int .i64 si', .int .i64 us', .bool ru', .int .i64 fa'] ∧ Below w.heap.size w W5 ∧ OwnS W5 lo hi 2 1 enI (.slice A gs'.length cp) gs' ∧ hi ≤ W5.heap.size) ⟨by first | exact six ro _ _ _ _ _ _ | exact RowB.alloc (six ro _ _ _ _ _ _) _, by go_grown, ?_, by have := K.hhi; go_size⟩ ?_
          · have h1 := K.hlo
            first | exact K.own.grown (grown_six _ _ _ _ _ _ _ _) (fun k hk => by simp at hk; omega) | exact (K.own.grown (grown_six _ _ _ _ _ _ _ _) (fun k hk => by simp at hk; omega)).alloc _
          rintro W5 ⟨ro5, q5, o5, hh5⟩
          obtain ⟨z0, z1, z2, z3, z4, z5⟩ := ro5.c6
          refine bodyPost_ret (v := .tuple #[.agg #[.slice A gs'.length cp, .int .i64 tu', .int .i64 si', .int .i64 us', .bool ru', .int .i64 fa'], .int .i64 (k : Int), .int .i64 co2]) (by simp [results, Try.results39, go_sem, z0, z1, z2, z3, z4, z5]) rfl ?_
          exact ⟨_, _, rfl, q5, (o5.less (by have := K.hlo; omega)).more hh5⟩
      · have L2 : w1.heap.size < wr.heap.size + 1 := by omega
        refine wpS (fun W' => Rn w W' r d b w1.heap.size A cp lo hi gs' tu' si' us' ru' fa' B _ evs ∧ RowB W' wr.heap.size 30 [.slice A2 gs2.length cp2, .int .i64 tu2, .int .i64 si2, .int .i64 us2, .bool ru2, .int .i64 fa2] ∧ OwnS W' (wr.heap.size + 1) w2.heap.size 2 1 enI (.slice A2 gs2.length cp2) gs2 ∧ w2.heap.size ≤ W'.heap.size) ⟨K.below (t2.grown (grown_six _ _ _ _ _ _ _ _) t2.size (fun k hk => by simp at hk; omega)), six rz _ _ _ _ _ _, o2.grown (grown_six _ _ _ _ _ _ _ _) (fun k hk => by simp at hk; omega), by go_size⟩ ?_
        clear K o2 t2 hb2 HS rz y0 y1 y2 y3 y4 y5 hfy lz
        rintro w3 ⟨K, rn, o2, hw3⟩
        have ln := rn.lt
        by_cases hc2 : co2 = 0
        · subst hc2
          have e2 : ((0 : Int) != 0) = false := rfl
          obtain ⟨x0, x1, x2, x3, x4, x5⟩ := K.rx.c6
          have hfx := K.rx.frozen
          obtain ⟨n0, n1, n2, n3, n4, n5⟩ := rn.c6
          go_wp2_with fail
          go_roundw
          case rel =>
            refine ⟨k + 1, A2, cp2, wr.heap.size + 1, w2.heap.size, gs2, tu2, si2, us2, ru2, fa2, by omega, by go_num, ?_, by have := hgo.out; rw [if_pos rfl] at this; exact this⟩
            exact Rn.put K (six K.rx _ _ _ _ _ _) o2 (by omega) L2 (grown_six _ _ _ _ _ _ _ _)
          case measure => simp [intOf]; omega
        · have e2 : (co2 != 0) = true := by simp [hc2]
          have hgo := hgo.out
          rw [if_neg hc2] at hgo
          simp only [Prod.mk.injEq] at hgo
          obtain ⟨⟨rfl, rfl, rfl, rfl, rfl, rfl⟩, rfl, rfl⟩ := hgo
          obtain ⟨x0, x1, x2, x3, x4, x5⟩ := K.rx.c6
          have ro := K.ro
          obtain ⟨z0, z1, z2, z3, z4, z5⟩ := ro.c6
          have hfz := ro.frozen
          have qq := K.bel
          go_wp2_with fail
          refine bp_gen (fun W5 => RowB W5 (w.heap.size + 1) 30 [.slice A gs'.length cp, .int .i64 tu', .int .i64 si', .int .i64 us', .bool ru', .int .i64 fa'] ∧ Below w.heap.size w W5 ∧ OwnS W5 lo hi 2 1 enI (.slice A gs'.length cp) gs' ∧ hi ≤ W5.heap.size) ⟨by first | exact six ro _ _ _ _ _ _ | exact RowB.alloc (six ro _ _ _ _ _ _) _, by go_grown, ?_, by have := K.hhi; go_size⟩ ?_
          · have h1 := K.hlo
            first | exact K.own.grown (grown_six _ _ _ _ _ _ _ _) (fun k hk => by simp at hk; omega) | exact (K.own.grown (grown_six _ _ _ _ _ _ _ _) (fun k hk => by simp at hk; omega)).alloc _
          rintro W5 ⟨ro5, q5, o5, hh5⟩
          obtain ⟨z0, z1, z2, z3, z4, z5⟩ := ro5.c6
          refine bodyPost_ret (v := .tuple #[.agg #[.slice A gs'.length cp, .int .i64 tu', .int .i64 si', .int .i64 us', .bool ru', .int .i64 fa'], .int .i64 (k : Int), .int .i64 co2]) (by simp [results, Try.results39, go_sem, z0, z1, z2, z3, z4, z5]) rfl ?_
          exact ⟨_, _, rfl, q5, (o5.less (by have := K.hlo; omega)).more hh5⟩
    · obtain rfl : k = N := by omega
      have hgo := HH.out
      rw [rcGo_end _ _ _ _ _ _ (by rw [HN.out]; exact Nat.le_refl _)] at hgo
      simp only [Prod.mk.injEq] at hgo
      obtain ⟨⟨rfl, rfl, rfl, rfl, rfl, rfl⟩, rfl, rfl⟩ := hgo
      have ro := K.ro
      obtain ⟨z0, z1, z2, z3, z4, z5⟩ := ro.c6
      have hfz := ro.frozen
      have qq := K.bel
      go_wp2_with fail
      refine bp_gen (fun W5 => RowB W5 (w.heap.size + 1) 30 [.slice A gs'.length cp, .int .i64 tu', .int .i64 si', .int .i64 us', .bool ru', .int .i64 fa'] ∧ Below w.heap.size w W5 ∧ OwnS W5 lo hi 2 1 enI (.slice A gs'.length cp) gs' ∧ hi ≤ W5.heap.size) ⟨by first | exact six ro _ _ _ _ _ _ | exact RowB.alloc (six ro _ _ _ _ _ _) _, by go_grown, ?_, by have := K.hhi; go_size⟩ ?_
      · have h1 := K.hlo
        first | exact K.own.grown (grown_six _ _ _ _ _ _ _ _) (fun k hk => by simp at hk; omega) | exact (K.own.grown (grown_six _ _ _ _ _ _ _ _) (fun k hk => by simp at hk; omega)).alloc _
      rintro W5 ⟨ro5, q5, o5, hh5⟩
      obtain ⟨z0, z1, z2, z3, z4, z5⟩ := ro5.c6
      refine bodyPost_ret (v := .tuple #[.agg #[.slice A gs'.length cp, .int .i64 tu', .int .i64 si', .int .i64 us', .bool ru', .int .i64 fa'], .int .i64 (k : Int), .int .i64 0]) (by simp [results, Try.results39, go_sem, z0, z1, z2, z3, z4, z5]) rfl ?_
      exact ⟨_, _, rfl, q5, (o5.less (by have := K.hlo; omega)).more hh5⟩

end Go.Proofs.Ytdjopnhbcchedaa.ClockRun
