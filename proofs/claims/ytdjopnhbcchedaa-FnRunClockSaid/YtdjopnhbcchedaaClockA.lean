/-
  ApplyEvent, of the program and of the reference. Conditions: each theorem's own.
-/
import Derived.Test.YtdjopnhbcchedaaClockT
import Derived.Test.YtdjopnhbcchedaaClone
import Derived.Test.YtdjopnhbcchedaaDraw
import Derived.BigRegion
set_option linter.unusedVariables false
set_option linter.unusedSimpArgs false
namespace Go.Proofs.Ytdjopnhbcchedaa.ClockA
open Go.ChangeShapes Go.WideShapes Go.ChangeAt Go.RowKit Base Ints Own Clock ClockSt ClockR ClockT Clone Draw

/-- The state behind an event, and the code. -/
def apR (r d b : Int) (xs : List Int) (turn since used : Int) (run : Bool) (fallen kind time : Int) : List Int × Int × Int × Int × Bool × Int × Int :=
  if okCS r d b xs turn since used run fallen = true then
    if (1 ≤ kind ∧ kind ≤ 3) ∧ (since ≤ time ∧ time ≤ 100000000) then
      if fallen = -1 ∧ run = !decide (kind = 3) then
        if run = true ∧ rest (sideOf xs turn) d since used run time = 0 then (xs.set turn.toNat 0, turn, 0, 0, false, turn, 0)
        else if kind = 1 then (xs.set turn.toNat (min (rest (sideOf xs turn) d since used run time + b) 100000000), 1 - turn, time, 0, true, -1, 0)
        else if kind = 2 then (xs, turn, time, min (elap since used run time) 100000000, false, -1, 0)
        else (xs, turn, time, used, true, -1, 0)
      else ([], 0, 0, 0, false, 0, 5)
    else ([], 0, 0, 0, false, 0, 2)
  else ([], 0, 0, 0, false, 0, 1)

/-- A state under way: the boxes, the box go that is written, the row of the rests. -/
structure Ap (w W : World) (r d b kind time : Int) (s0 : List Value) (go : Nat) (sv : List Value) (g : Nat) (ys : List Int) (rest : List Value) : Prop where
  rr : RowB W w.heap.size 25 [.int .i64 r, .int .i64 d, .int .i64 b]
  rs : go ≠ w.heap.size + 1 → RowB W (w.heap.size + 1) 30 s0
  re : RowB W (w.heap.size + 2) 54 [.int .i64 kind, .int .i64 time]
  ro : RowB W (w.heap.size + 3) 30 [.slice none 0 0, .int .i64 0, .int .i64 0, .int .i64 0, .bool false, .int .i64 0]
  rx : RowB W go 30 sv
  rg : RowB W g 2 (ys.flatMap enI ++ rest)
  hg : w.heap.size + 4 ≤ g
  hgo : go ≠ g ∧ go ≠ w.heap.size ∧ go ≠ w.heap.size + 2 ∧ go ≠ w.heap.size + 3
  hlt : w.heap.size ≤ go
  bel : Below w.heap.size w W
theorem Ap.set {w W : World} {r d b kind time : Int} {s0 : List Value} {go : Nat} {sv : List Value} {g : Nat} {ys : List Int} {rest : List Value} (h : Ap w W r d b kind time s0 go sv g ys rest) (j : Nat) (u : Value) :
    Ap w (W.setCell ⟨go, j, none⟩ u) r d b kind time s0 go (sv.set j u) g ys rest :=
  ⟨h.rr.other (by show _ ≠ go; have := h.hgo; omega) _, fun hn => (h.rs hn).other (by show _ ≠ go; omega) _, h.re.other (by show _ ≠ go; have := h.hgo; omega) _, h.ro.other (by show _ ≠ go; have := h.hgo; omega) _, h.rx.set j u, h.rg.other (by show _ ≠ go; have := h.hgo; omega) _, h.hg, h.hgo, h.hlt, h.bel.setCell h.hlt _⟩
theorem flat_set (xs : List Int) (rest : List Value) (i : Nat) (y : Int) (hi : i < xs.length) : (xs.flatMap enI ++ rest).set i (.int .i64 y) = (xs.set i y).flatMap enI ++ rest := by
  induction xs generalizing i with
  | nil => simp at hi
  | cons x xs ih => cases i with
    | zero => rfl
    | succ i => simp only [List.flatMap_cons, enI, List.cons_append, List.nil_append, List.set_cons_succ]; exact congrArg _ (ih i (by simpa using hi))
theorem Ap.put {w W : World} {r d b kind time : Int} {s0 : List Value} {go : Nat} {sv : List Value} {g : Nat} {ys : List Int} {rest : List Value} (h : Ap w W r d b kind time s0 go sv g ys rest) (i : Nat) (y : Int) (hi : i < ys.length) :
    Ap w (W.setCell ⟨g, i, none⟩ (.int .i64 y)) r d b kind time s0 go sv g (ys.set i y) rest :=
  have hg := h.hg
  have hgo := h.hgo
  ⟨h.rr.other (by show _ ≠ g; omega) _, fun hn => (h.rs hn).other (by show _ ≠ g; omega) _, h.re.other (by show _ ≠ g; omega) _, h.ro.other (by show _ ≠ g; omega) _, h.rx.other (by show _ ≠ g; omega) _, by have := h.rg.set i (.int .i64 y); rwa [flat_set _ _ _ _ hi] at this, h.hg, h.hgo, h.hlt, h.bel.setCell (by show _ ≤ g; omega) _⟩
theorem Ap.below {w W W' : World} {r d b kind time : Int} {s0 : List Value} {go : Nat} {sv : List Value} {g : Nat} {ys : List Int} {rest : List Value} (h : Ap w W r d b kind time s0 go sv g ys rest) (hb : Below W.heap.size W W') :
    Ap w W' r d b kind time s0 go sv g ys rest :=
  ⟨h.rr.below hb h.rr.lt, fun hn => (h.rs hn).below hb (h.rs hn).lt, h.re.below hb h.re.lt, h.ro.below hb h.ro.lt, h.rx.below hb h.rx.lt, h.rg.below hb h.rg.lt, h.hg, h.hgo, h.hlt, h.bel.trans (hb.mono h.bel.size)⟩
theorem pair_at {x y : Int} {rest : List Value} {W : World} {g : Nat} {e : TypeId} (h : RowB W g e ([x, y].flatMap enI ++ rest)) {t : Nat} (ht : t < 2) : ∃ z, W.cell? ⟨g, t, none⟩ = some z := by
  rw [h.cell]
  exact ⟨_, List.getElem?_eq_getElem (by rw [List.length_append, flatMap_len enI_len]; simp; omega)⟩
theorem Ap.own {w W : World} {r d b kind time : Int} {s0 : List Value} {go : Nat} {sv : List Value} {g cap : Nat} {ys : List Int} {rest : List Value} (h : Ap w W r d b kind time s0 go sv g ys rest) {W' : World} (hk : RowB W' g 2 (ys.flatMap enI ++ rest)) (hc : ys.length ≤ cap) (hm : cap ≤ maxLen) (hl : ys.length + rest.length = cap) :
    OwnS W' w.heap.size W'.heap.size 2 1 enI (.slice (some ⟨g, 0, none⟩) ys.length cap) ys :=
  OwnS.mk_ enI_len hk (by have := h.hg; omega) hk.lt hc hm (by omega)
theorem e7yes {run : Bool} {kind : Int} (h : run = !decide (kind = 3)) : (run == (kind == 3)) = false := by
  subst h
  by_cases h3 : kind = 3 <;> simp [h3]
theorem e7no {run : Bool} {kind : Int} (h : ¬ ((-1 : Int) = -1 ∧ run = !decide (kind = 3))) : (run == (kind == 3)) = true := by
  by_cases h3 : kind = 3 <;> cases run <;> simp_all
theorem rest_bd {x y d since used time : Int} {run : Bool} {turn : Int} (ht : turn = 0 ∨ turn = 1) (x2 : x ≤ 100000000) (y2 : y ≤ 100000000) : 0 ≤ rest (sideOf [x, y] turn) d since used run time ∧ rest (sideOf [x, y] turn) d since used run time ≤ 100000000 := by
  unfold rest
  rcases ht with rfl | rfl <;> simp only [sideOf] <;> simp <;> omega

set_option maxHeartbeats 8000000 in
set_option maxRecDepth 100000 in
theorem ap_impl (r d b : Int) (A : Option Addr) (cp B : Nat) (xs : List Int) (turn since used : Int) (run : Bool) (fallen kind time : Int) (w : World) (gs : List Int) (tu si us : Int) (ru : Bool) (fa co : Int) (hB : B ≤ w.heap.size) (hr : RdS w B 1 enI A xs) (h : apR r d b xs turn since used run fallen kind time = (gs, tu, si, us, ru, fa, co)) :
    Calls Try.prog 32 #[.agg #[.int .i64 r, .int .i64 d, .int .i64 b], .agg #[.slice A xs.length cp, .int .i64 turn, .int .i64 since, .int .i64 used, .bool run, .int .i64 fallen], .agg #[.int .i64 kind, .int .i64 time]] w fun e w' => ∃ A cp, e = .returned (.tuple #[.agg #[.slice A gs.length cp, .int .i64 tu, .int .i64 si, .int .i64 us, .bool ru, .int .i64 fa], .int .i64 co]) ∧ Below w.heap.size w w' ∧ OwnS w' w.heap.size w'.heap.size 2 1 enI (.slice A gs.length cp) gs := by
  by_cases h0 : okCS r d b xs turn since used run fallen = true
  · have H0 := Lib.hid h0
    obtain ⟨x, y, hxy, ⟨r1, r2⟩, ⟨d1, d2⟩, ⟨b1, b2⟩, ⟨x1, x2⟩, ⟨y1, y2⟩, ht, ⟨s1, s2⟩, ⟨u1, u2⟩, hfall⟩ := okCS_elim h0
    subst hxy
    go_enter Try.func32, Try.ntmps32
    go_wp2_with fail
    refine (isCS_impl r d b A cp B [x, y] turn since used run fallen _ (by simp; omega) (hr.below (by go_grown) hB)).mono ?_
    rw [h0]
    clear h0
    rintro e w1 ⟨rfl, hb1⟩
    have rr := ((((RowB.new _ _ _).alloc _).alloc _).alloc _).below hb1 (by simp; try omega)
    have rs := (((RowB.new _ _ _).alloc _).alloc _).below hb1 (by simp; try omega)
    have re := ((RowB.new _ _ _).alloc _).below hb1 (by simp; try omega)
    have ro := (RowB.new _ _ _).below hb1 (by simp; try omega)
    have q1 : Below w.heap.size w w1 := Below.then_ (by go_grown) hb1 (by simp; omega)
    simp only [World.size_alloc] at rs re ro
    have hr := hr.below q1 hB
    have z1 := q1.size
    clear hb1
    obtain ⟨k0, k1, k2⟩ := rr.c3
    obtain ⟨p0, p1, p2, p3, p4, p5⟩ := rs.c6
    obtain ⟨e0, e1⟩ := re.c2
    have l1 := ro.lt
    by_cases hk : (1 ≤ kind ∧ kind ≤ 3) ∧ (since ≤ time ∧ time ≤ 100000000)
    · by_cases hf : fallen = -1 ∧ run = !decide (kind = 3)
      · obtain ⟨⟨hk1, hk2⟩, hk3, hk4⟩ := hk
        obtain ⟨rfl, hrun⟩ := hf
        obtain ⟨t, rfl⟩ : ∃ t : Nat, turn = t := ⟨turn.toNat, by omega⟩
        have ht2 : t < 2 := by omega
        have hq := rest_bd (d := d) (since := since) (used := used) (time := time) (run := run) ht x2 y2
        have he := elap_bd (run := run) s1 s2 u1 u2 hk3 hk4
        have CR := fun w0 h1 h2 => rest_impl r d b A cp B x y (t : Int) since used run (-1) time w0 h1 h2 ht x1 x2 y1 y2 d1 d2 s1 s2 u1 u2 hk3 hk4
        have CE := fun w0 => el_impl A 2 cp (t : Int) since used run (-1) time w0 s1 s2 u1 u2 hk3 hk4
        have hA : A = none → cp = 0 := by
          obtain ⟨bk, off, _, rfl, _⟩ := rdI_at hr (i := 0) (by simp)
          intro hh; cases hh
        have HA := Lib.hid hA; clear hA
        have HRUN := Lib.hid hrun; clear hrun
        have hcase : (kind = 1 ∧ run = true) ∨ (kind = 2 ∧ run = true) ∨ (kind = 3 ∧ run = false) := by
          have hrun := HRUN.out
          have : kind = 1 ∨ kind = 2 ∨ kind = 3 := by omega
          rcases this with rfl | rfl | rfl <;> simp at hrun <;> simp [hrun]
        rcases hcase with ⟨rfl, rfl⟩ | ⟨rfl, rfl⟩ | ⟨rfl, rfl⟩
        · generalize hqq : rest (sideOf [x, y] (t : Int)) d since used true time = q at *
          generalize hee : elap since used true time = el at *
          have HQ := Lib.hid hqq; clear hqq
          have HE := Lib.hid hee; clear hee
          have CR := Lib.hid CR
          have CE := Lib.hid CE
          obtain ⟨hq0, hq1⟩ := hq
          obtain ⟨he0, he1⟩ := he
          by_cases hqz : q = 0
          · subst hqz
            have hv : apR r d b [x, y] (t : Int) since used true (-1) 1 time = ([x, y].set (t : Int).toNat 0, (t : Int), 0, 0, false, (t : Int), 0) := by unfold apR; rw [if_pos H0.out, if_pos ⟨⟨hk1, hk2⟩, hk3, hk4⟩, if_pos ⟨rfl, by decide⟩, if_pos ⟨rfl, HQ.out⟩]
            rw [hv] at h
            simp only [Prod.mk.injEq, Int.toNat_natCast] at h
            obtain ⟨rfl, rfl, rfl, rfl, rfl, rfl, rfl⟩ := h
            clear hv hfall
            have hBw : B ≤ w1.heap.size := by omega
            go_wp2
            go_region_held3 (fun w' => (w'.cell? ⟨w.heap.size, 0, none⟩ = some (.int .i64 r) ∧ w'.cell? ⟨w.heap.size, 1, none⟩ = some (.int .i64 d) ∧ w'.cell? ⟨w.heap.size, 2, none⟩ = some (.int .i64 b)) ∧ (w'.cell? ⟨w.heap.size + 1, 0, none⟩ = some (.slice A 2 cp) ∧ w'.cell? ⟨w.heap.size + 1, 1, none⟩ = some (.int .i64 (t : Int)) ∧ w'.cell? ⟨w.heap.size + 1, 2, none⟩ = some (.int .i64 since) ∧ w'.cell? ⟨w.heap.size + 1, 3, none⟩ = some (.int .i64 used) ∧ w'.cell? ⟨w.heap.size + 1, 4, none⟩ = some (.bool true) ∧ w'.cell? ⟨w.heap.size + 1, 5, none⟩ = some (.int .i64 (-1))) ∧ (w'.cell? ⟨w.heap.size + 2, 0, none⟩ = some (.int .i64 1) ∧ w'.cell? ⟨w.heap.size + 2, 1, none⟩ = some (.int .i64 time))) (exact ⟨rr.c3, rs.c6, re.c2⟩) (first | (go_at_call 53; refine (CR.out _ (by first | exact hBw | go_size) (by exact hr)).mono ?_; rintro e w2 ⟨rfl, hb2⟩; have t2 : Below w1.heap.size w1 w2 := Below.then_ (by go_grown) hb2 (by go_size); have z2 := t2.size; have q2 := q1.trans (t2.mono q1.size); have rr := rr.below t2 (by omega); have rs := rs.below t2 (by omega); have re := re.below t2 (by omega); have ro := ro.below t2 l1; have l2 := ro.lt; have hr := hr.below t2 (by omega)) | (go_at_call 58; refine (CE.out _).mono ?_; rintro e w3 ⟨rfl, hb3⟩; have t3 : Below w2.heap.size w2 w3 := Below.then_ (by go_grown) hb3 (by go_size); have z3 := t3.size; have q3 := q2.trans (t3.mono q2.size); have rr := rr.below t3 (by omega); have rs := rs.below t3 (by omega); have re := re.below t3 (by omega); have ro := ro.below t3 l2; have l3 := ro.lt; have hr := hr.below t3 (by omega)) | fail)
            clear k0 k1 k2 p0 p1 p2 p3 p4 p5 e0 e1 hb2 hb3 t2 t3
            obtain ⟨p0, p1, p2, p3, p4, p5⟩ := rs.c6
            go_wp2_with fail
            clear p0 p1 p2 p3 p4 p5
            refine (clone A cp B [x, y] _ (by omega) (by exact hr) HA.out (by simp)).mono ?_
            rintro e w4 ⟨⟨v, rfl, o4⟩, hb4⟩
            rcases o4.cases_ with ⟨_, hnil⟩ | ⟨g, cap, rest', rfl, hlo, hhi, hRg, hnc, hcm, hl⟩
            · cases hnil
            have t4 : Below w3.heap.size w3 w4 := Below.then_ (by go_grown) hb4 (by go_size)
            have hlo' : w3.heap.size ≤ g := by first | exact hlo | simpa using hlo
            have H : Ap w w4 r d b 1 time [] (w.heap.size + 1) [.slice A 2 cp, .int .i64 t, .int .i64 since, .int .i64 used, .bool true, .int .i64 (-1)] g [x, y] rest' := ⟨rr.below t4 (by omega), fun hh => absurd rfl hh, re.below t4 (by omega), ro.below t4 l3, rs.below t4 (by omega), hRg, by omega, by omega, by omega, q3.trans (t4.mono q3.size)⟩
            simp only [List.length_cons, List.length_nil, Nat.zero_add, Nat.reduceAdd, Nat.mul_one] at hl hnc
            clear o4 hRg rr rs re ro hr hb4 t4 q1 q2 q3 CR CE
            obtain ⟨x0, x1', x2', x3, x4, x5⟩ := H.rx.c6
            have hfx := H.rx.frozen
            obtain ⟨e0, e1⟩ := H.re.c2
            have hgg := H.hg
            go_upto_region 9 with (fail)
            refine wpS (fun W' => Ap w W' r d b 1 time _ (w.heap.size + 1) [.slice (some ⟨g, 0, none⟩) 2 cap, .int .i64 t, .int .i64 since, .int .i64 used, .bool true, .int .i64 (-1)] g ([x, y]) rest') (H.set 0 _) ?_
            clear x0 x1' x2' x3 x4 x5 hfx hgg e0 e1 H
            rintro W2 H
            obtain ⟨x0, x1', x2', x3, x4, x5⟩ := H.rx.c6
            have hfx := H.rx.frozen
            obtain ⟨e0, e1⟩ := H.re.c2
            have hgg := H.hg
            go_upto_region 11 with (fail)
            refine wpS (fun W' => Ap w W' r d b 1 time _ (w.heap.size + 1) [.slice (some ⟨g, 0, none⟩) 2 cap, .int .i64 t, .int .i64 since, .int .i64 used, .bool false, .int .i64 (-1)] g ([x, y]) rest') (H.set 4 _) ?_
            clear x0 x1' x2' x3 x4 x5 hfx hgg e0 e1 H
            rintro W2 H
            obtain ⟨x0, x1', x2', x3, x4, x5⟩ := H.rx.c6
            have hfx := H.rx.frozen
            obtain ⟨e0, e1⟩ := H.re.c2
            have hgg := H.hg
            go_upto_region 12 with (fail)
            refine wpS (fun W' => Ap w W' r d b 1 time _ (w.heap.size + 1) [.slice (some ⟨g, 0, none⟩) 2 cap, .int .i64 t, .int .i64 since, .int .i64 used, .bool false, .int .i64 (t : Int)] g ([x, y]) rest') (H.set 5 _) ?_
            clear x0 x1' x2' x3 x4 x5 hfx hgg e0 e1 H
            rintro W2 H
            obtain ⟨x0, x1', x2', x3, x4, x5⟩ := H.rx.c6
            have hfx := H.rx.frozen
            obtain ⟨e0, e1⟩ := H.re.c2
            have hgg := H.hg
            obtain ⟨zz, hzz⟩ := pair_at H.rg ht2
            have hfg := H.rg.frozen
            obtain ⟨k0, k1, k2⟩ := H.rr.c3
            go_upto_region 13 with (fail)
            refine wpS (fun W' => Ap w W' r d b 1 time _ (w.heap.size + 1) [.slice (some ⟨g, 0, none⟩) 2 cap, .int .i64 t, .int .i64 since, .int .i64 used, .bool false, .int .i64 (t : Int)] g ([x, y].set t 0) rest') (H.put t 0 (by simpa using ht2)) ?_
            clear x0 x1' x2' x3 x4 x5 hfx hgg e0 e1 H zz hzz hfg k0 k1 k2
            rintro W2 H
            obtain ⟨x0, x1', x2', x3, x4, x5⟩ := H.rx.c6
            have hfx := H.rx.frozen
            obtain ⟨e0, e1⟩ := H.re.c2
            have hgg := H.hg
            go_upto_region 14 with (fail)
            refine wpS (fun W' => Ap w W' r d b 1 time _ (w.heap.size + 1) [.slice (some ⟨g, 0, none⟩) 2 cap, .int .i64 t, .int .i64 0, .int .i64 0, .bool false, .int .i64 (t : Int)] g ([x, y].set t 0) rest') ((H.set 2 _).set 3 _) ?_
            clear x0 x1' x2' x3 x4 x5 hfx hgg e0 e1 H
            rintro W2 H
            obtain ⟨x0, x1', x2', x3, x4, x5⟩ := H.rx.c6
            have ro := H.ro
            obtain ⟨z0, z1', z2, z3, z4, z5⟩ := ro.c6
            have hfz := ro.frozen
            have qq := H.bel
            have rgg := H.rg
            have hgg := H.hg
            go_wp2_with fail
            refine bp_gen (fun W5 => RowB W5 (w.heap.size + 3) 30 [.slice (some ⟨g, 0, none⟩) 2 cap, .int .i64 t, .int .i64 0, .int .i64 0, .bool false, .int .i64 (t : Int)] ∧ Below w.heap.size w W5 ∧ RowB W5 g 2 (([x, y].set t 0).flatMap enI ++ rest')) ⟨((((((ro.set 0 _).set 1 _).set 2 _).set 3 _).set 4 _).set 5 _), by go_grown, ?_⟩ ?_
            · have hn : g ≠ w.heap.size + 3 := by omega
              exact (((((rgg.other (by exact hn) _).other (by exact hn) _).other (by exact hn) _).other (by exact hn) _).other (by exact hn) _).other (by exact hn) _
            clear z0 z1' z2 z3 z4 z5 hfz ro qq rgg x0 x1' x2' x3 x4 x5
            rintro W5 ⟨ro, q5, rgg⟩
            obtain ⟨z0, z1', z2, z3, z4, z5⟩ := ro.c6
            refine bodyPost_ret (v := .tuple #[.agg #[.slice (some ⟨g, 0, none⟩) 2 cap, .int .i64 t, .int .i64 0, .int .i64 0, .bool false, .int .i64 (t : Int)], .int .i64 0]) (by simp [results, Try.results32, go_sem, z0, z1', z2, z3, z4, z5]) rfl ?_
            refine ⟨some ⟨g, 0, none⟩, cap, by rw [List.length_set]; rfl, q5, ?_⟩
            exact H.own rgg (by simp; try omega) (by omega) (by simp; try omega)
          · have hqb : (q == 0) = false := by simp [hqz]
            have hv : apR r d b [x, y] (t : Int) since used true (-1) 1 time = ([x, y].set (t : Int).toNat (min (q + b) 100000000), 1 - (t : Int), time, 0, true, -1, 0) := by unfold apR; rw [if_pos H0.out, if_pos ⟨⟨hk1, hk2⟩, hk3, hk4⟩, if_pos ⟨rfl, by decide⟩, if_neg (by rw [HQ.out]; exact fun hh => hqz hh.2), if_pos rfl, HQ.out]
            obtain ⟨m, hm⟩ : ∃ m, min (q + b) 100000000 = m := ⟨_, rfl⟩
            rw [hv, hm] at h
            simp only [Prod.mk.injEq, Int.toNat_natCast] at h
            obtain ⟨rfl, rfl, rfl, rfl, rfl, rfl, rfl⟩ := h
            clear hv hfall
            have em : (if (100000000 : Int) < q + b then 100000000 else q + b) = m := by rw [← hm]; simp only [Int.min_def]; split <;> split <;> omega
            clear hm
            have hBw : B ≤ w1.heap.size := by omega
            go_wp2
            go_region_held3 (fun w' => (w'.cell? ⟨w.heap.size, 0, none⟩ = some (.int .i64 r) ∧ w'.cell? ⟨w.heap.size, 1, none⟩ = some (.int .i64 d) ∧ w'.cell? ⟨w.heap.size, 2, none⟩ = some (.int .i64 b)) ∧ (w'.cell? ⟨w.heap.size + 1, 0, none⟩ = some (.slice A 2 cp) ∧ w'.cell? ⟨w.heap.size + 1, 1, none⟩ = some (.int .i64 (t : Int)) ∧ w'.cell? ⟨w.heap.size + 1, 2, none⟩ = some (.int .i64 since) ∧ w'.cell? ⟨w.heap.size + 1, 3, none⟩ = some (.int .i64 used) ∧ w'.cell? ⟨w.heap.size + 1, 4, none⟩ = some (.bool true) ∧ w'.cell? ⟨w.heap.size + 1, 5, none⟩ = some (.int .i64 (-1))) ∧ (w'.cell? ⟨w.heap.size + 2, 0, none⟩ = some (.int .i64 1) ∧ w'.cell? ⟨w.heap.size + 2, 1, none⟩ = some (.int .i64 time))) (exact ⟨rr.c3, rs.c6, re.c2⟩) (first | (go_at_call 53; refine (CR.out _ (by first | exact hBw | go_size) (by exact hr)).mono ?_; rintro e w2 ⟨rfl, hb2⟩; have t2 : Below w1.heap.size w1 w2 := Below.then_ (by go_grown) hb2 (by go_size); have z2 := t2.size; have q2 := q1.trans (t2.mono q1.size); have rr := rr.below t2 (by omega); have rs := rs.below t2 (by omega); have re := re.below t2 (by omega); have ro := ro.below t2 l1; have l2 := ro.lt; have hr := hr.below t2 (by omega)) | (go_at_call 58; refine (CE.out _).mono ?_; rintro e w3 ⟨rfl, hb3⟩; have t3 : Below w2.heap.size w2 w3 := Below.then_ (by go_grown) hb3 (by go_size); have z3 := t3.size; have q3 := q2.trans (t3.mono q2.size); have rr := rr.below t3 (by omega); have rs := rs.below t3 (by omega); have re := re.below t3 (by omega); have ro := ro.below t3 l2; have l3 := ro.lt; have hr := hr.below t3 (by omega)) | fail)
            clear k0 k1 k2 p0 p1 p2 p3 p4 p5 e0 e1 hb2 hb3 t2 t3
            obtain ⟨p0, p1, p2, p3, p4, p5⟩ := rs.c6
            go_wp2_with fail
            clear p0 p1 p2 p3 p4 p5
            refine (clone A cp B [x, y] _ (by omega) (by exact hr) HA.out (by simp)).mono ?_
            rintro e w4 ⟨⟨v, rfl, o4⟩, hb4⟩
            rcases o4.cases_ with ⟨_, hnil⟩ | ⟨g, cap, rest', rfl, hlo, hhi, hRg, hnc, hcm, hl⟩
            · cases hnil
            have t4 : Below w3.heap.size w3 w4 := Below.then_ (by go_grown) hb4 (by go_size)
            have hlo' : w3.heap.size ≤ g := by first | exact hlo | simpa using hlo
            have H : Ap w w4 r d b 1 time [] (w.heap.size + 1) [.slice A 2 cp, .int .i64 t, .int .i64 since, .int .i64 used, .bool true, .int .i64 (-1)] g [x, y] rest' := ⟨rr.below t4 (by omega), fun hh => absurd rfl hh, re.below t4 (by omega), ro.below t4 l3, rs.below t4 (by omega), hRg, by omega, by omega, by omega, q3.trans (t4.mono q3.size)⟩
            simp only [List.length_cons, List.length_nil, Nat.zero_add, Nat.reduceAdd, Nat.mul_one] at hl hnc
            clear o4 hRg rr rs re ro hr hb4 t4 q1 q2 q3 CR CE
            obtain ⟨x0, x1', x2', x3, x4, x5⟩ := H.rx.c6
            have hfx := H.rx.frozen
            obtain ⟨e0, e1⟩ := H.re.c2
            have hgg := H.hg
            go_upto_region 9 with (fail)
            refine wpS (fun W' => Ap w W' r d b 1 time _ (w.heap.size + 1) [.slice (some ⟨g, 0, none⟩) 2 cap, .int .i64 t, .int .i64 since, .int .i64 used, .bool true, .int .i64 (-1)] g ([x, y]) rest') (H.set 0 _) ?_
            clear x0 x1' x2' x3 x4 x5 hfx hgg e0 e1 H
            rintro W2 H
            obtain ⟨x0, x1', x2', x3, x4, x5⟩ := H.rx.c6
            have hfx := H.rx.frozen
            obtain ⟨e0, e1⟩ := H.re.c2
            have hgg := H.hg
            go_upto_region 16 with (fail)
            refine wpS (fun W' => Ap w W' r d b 1 time _ (w.heap.size + 1) [.slice (some ⟨g, 0, none⟩) 2 cap, .int .i64 t, .int .i64 time, .int .i64 used, .bool true, .int .i64 (-1)] g ([x, y]) rest') (H.set 2 _) ?_
            clear x0 x1' x2' x3 x4 x5 hfx hgg e0 e1 H
            rintro W2 H
            obtain ⟨x0, x1', x2', x3, x4, x5⟩ := H.rx.c6
            have hfx := H.rx.frozen
            obtain ⟨e0, e1⟩ := H.re.c2
            have hgg := H.hg
            obtain ⟨zz, hzz⟩ := pair_at H.rg ht2
            have hfg := H.rg.frozen
            obtain ⟨k0, k1, k2⟩ := H.rr.c3
            go_upto_region 19 with (fail)
            refine wpS (fun W' => Ap w W' r d b 1 time _ (w.heap.size + 1) [.slice (some ⟨g, 0, none⟩) 2 cap, .int .i64 t, .int .i64 time, .int .i64 used, .bool true, .int .i64 (-1)] g ([x, y].set t m) rest') (H.put t m (by simpa using ht2)) ?_
            clear x0 x1' x2' x3 x4 x5 hfx hgg e0 e1 H zz hzz hfg k0 k1 k2
            rintro W2 H
            obtain ⟨x0, x1', x2', x3, x4, x5⟩ := H.rx.c6
            have hfx := H.rx.frozen
            obtain ⟨e0, e1⟩ := H.re.c2
            have hgg := H.hg
            go_upto_region 20 with (fail)
            refine wpS (fun W' => Ap w W' r d b 1 time _ (w.heap.size + 1) [.slice (some ⟨g, 0, none⟩) 2 cap, .int .i64 (1 - (t : Int)), .int .i64 time, .int .i64 used, .bool true, .int .i64 (-1)] g ([x, y].set t m) rest') (H.set 1 _) ?_
            clear x0 x1' x2' x3 x4 x5 hfx hgg e0 e1 H
            rintro W2 H
            obtain ⟨x0, x1', x2', x3, x4, x5⟩ := H.rx.c6
            have hfx := H.rx.frozen
            obtain ⟨e0, e1⟩ := H.re.c2
            have hgg := H.hg
            go_upto_region 26 with (fail)
            refine wpS (fun W' => Ap w W' r d b 1 time _ (w.heap.size + 1) [.slice (some ⟨g, 0, none⟩) 2 cap, .int .i64 (1 - (t : Int)), .int .i64 time, .int .i64 0, .bool true, .int .i64 (-1)] g ([x, y].set t m) rest') (H.set 3 _) ?_
            clear x0 x1' x2' x3 x4 x5 hfx hgg e0 e1 H
            rintro W2 H
            obtain ⟨x0, x1', x2', x3, x4, x5⟩ := H.rx.c6
            have ro := H.ro
            obtain ⟨z0, z1', z2, z3, z4, z5⟩ := ro.c6
            have hfz := ro.frozen
            have qq := H.bel
            have rgg := H.rg
            have hgg := H.hg
            go_wp2_with fail
            refine bp_gen (fun W5 => RowB W5 (w.heap.size + 3) 30 [.slice (some ⟨g, 0, none⟩) 2 cap, .int .i64 (1 - (t : Int)), .int .i64 time, .int .i64 0, .bool true, .int .i64 (-1)] ∧ Below w.heap.size w W5 ∧ RowB W5 g 2 (([x, y].set t m).flatMap enI ++ rest')) ⟨((((((ro.set 0 _).set 1 _).set 2 _).set 3 _).set 4 _).set 5 _), by go_grown, ?_⟩ ?_
            · have hn : g ≠ w.heap.size + 3 := by omega
              exact (((((rgg.other (by exact hn) _).other (by exact hn) _).other (by exact hn) _).other (by exact hn) _).other (by exact hn) _).other (by exact hn) _
            clear z0 z1' z2 z3 z4 z5 hfz ro qq rgg x0 x1' x2' x3 x4 x5
            rintro W5 ⟨ro, q5, rgg⟩
            obtain ⟨z0, z1', z2, z3, z4, z5⟩ := ro.c6
            refine bodyPost_ret (v := .tuple #[.agg #[.slice (some ⟨g, 0, none⟩) 2 cap, .int .i64 (1 - (t : Int)), .int .i64 time, .int .i64 0, .bool true, .int .i64 (-1)], .int .i64 0]) (by simp [results, Try.results32, go_sem, z0, z1', z2, z3, z4, z5]) rfl ?_
            refine ⟨some ⟨g, 0, none⟩, cap, by rw [List.length_set]; rfl, q5, ?_⟩
            exact H.own rgg (by simp; try omega) (by omega) (by simp; try omega)
        · generalize hqq : rest (sideOf [x, y] (t : Int)) d since used true time = q at *
          generalize hee : elap since used true time = el at *
          have HQ := Lib.hid hqq; clear hqq
          have HE := Lib.hid hee; clear hee
          have CR := Lib.hid CR
          have CE := Lib.hid CE
          obtain ⟨hq0, hq1⟩ := hq
          obtain ⟨he0, he1⟩ := he
          by_cases hqz : q = 0
          · subst hqz
            have hv : apR r d b [x, y] (t : Int) since used true (-1) 2 time = ([x, y].set (t : Int).toNat 0, (t : Int), 0, 0, false, (t : Int), 0) := by unfold apR; rw [if_pos H0.out, if_pos ⟨⟨hk1, hk2⟩, hk3, hk4⟩, if_pos ⟨rfl, by decide⟩, if_pos ⟨rfl, HQ.out⟩]
            rw [hv] at h
            simp only [Prod.mk.injEq, Int.toNat_natCast] at h
            obtain ⟨rfl, rfl, rfl, rfl, rfl, rfl, rfl⟩ := h
            clear hv hfall
            have hBw : B ≤ w1.heap.size := by omega
            go_wp2
            go_region_held3 (fun w' => (w'.cell? ⟨w.heap.size, 0, none⟩ = some (.int .i64 r) ∧ w'.cell? ⟨w.heap.size, 1, none⟩ = some (.int .i64 d) ∧ w'.cell? ⟨w.heap.size, 2, none⟩ = some (.int .i64 b)) ∧ (w'.cell? ⟨w.heap.size + 1, 0, none⟩ = some (.slice A 2 cp) ∧ w'.cell? ⟨w.heap.size + 1, 1, none⟩ = some (.int .i64 (t : Int)) ∧ w'.cell? ⟨w.heap.size + 1, 2, none⟩ = some (.int .i64 since) ∧ w'.cell? ⟨w.heap.size + 1, 3, none⟩ = some (.int .i64 used) ∧ w'.cell? ⟨w.heap.size + 1, 4, none⟩ = some (.bool true) ∧ w'.cell? ⟨w.heap.size + 1, 5, none⟩ = some (.int .i64 (-1))) ∧ (w'.cell? ⟨w.heap.size + 2, 0, none⟩ = some (.int .i64 2) ∧ w'.cell? ⟨w.heap.size + 2, 1, none⟩ = some (.int .i64 time))) (exact ⟨rr.c3, rs.c6, re.c2⟩) (first | (go_at_call 53; refine (CR.out _ (by first | exact hBw | go_size) (by exact hr)).mono ?_; rintro e w2 ⟨rfl, hb2⟩; have t2 : Below w1.heap.size w1 w2 := Below.then_ (by go_grown) hb2 (by go_size); have z2 := t2.size; have q2 := q1.trans (t2.mono q1.size); have rr := rr.below t2 (by omega); have rs := rs.below t2 (by omega); have re := re.below t2 (by omega); have ro := ro.below t2 l1; have l2 := ro.lt; have hr := hr.below t2 (by omega)) | (go_at_call 58; refine (CE.out _).mono ?_; rintro e w3 ⟨rfl, hb3⟩; have t3 : Below w2.heap.size w2 w3 := Below.then_ (by go_grown) hb3 (by go_size); have z3 := t3.size; have q3 := q2.trans (t3.mono q2.size); have rr := rr.below t3 (by omega); have rs := rs.below t3 (by omega); have re := re.below t3 (by omega); have ro := ro.below t3 l2; have l3 := ro.lt; have hr := hr.below t3 (by omega)) | fail)
            clear k0 k1 k2 p0 p1 p2 p3 p4 p5 e0 e1 hb2 hb3 t2 t3
            obtain ⟨p0, p1, p2, p3, p4, p5⟩ := rs.c6
            go_wp2_with fail
            clear p0 p1 p2 p3 p4 p5
            refine (clone A cp B [x, y] _ (by omega) (by exact hr) HA.out (by simp)).mono ?_
            rintro e w4 ⟨⟨v, rfl, o4⟩, hb4⟩
            rcases o4.cases_ with ⟨_, hnil⟩ | ⟨g, cap, rest', rfl, hlo, hhi, hRg, hnc, hcm, hl⟩
            · cases hnil
            have t4 : Below w3.heap.size w3 w4 := Below.then_ (by go_grown) hb4 (by go_size)
            have hlo' : w3.heap.size ≤ g := by first | exact hlo | simpa using hlo
            have H : Ap w w4 r d b 2 time [] (w.heap.size + 1) [.slice A 2 cp, .int .i64 t, .int .i64 since, .int .i64 used, .bool true, .int .i64 (-1)] g [x, y] rest' := ⟨rr.below t4 (by omega), fun hh => absurd rfl hh, re.below t4 (by omega), ro.below t4 l3, rs.below t4 (by omega), hRg, by omega, by omega, by omega, q3.trans (t4.mono q3.size)⟩
            simp only [List.length_cons, List.length_nil, Nat.zero_add, Nat.reduceAdd, Nat.mul_one] at hl hnc
            clear o4 hRg rr rs re ro hr hb4 t4 q1 q2 q3 CR CE
            obtain ⟨x0, x1', x2', x3, x4, x5⟩ := H.rx.c6
            have hfx := H.rx.frozen
            obtain ⟨e0, e1⟩ := H.re.c2
            have hgg := H.hg
            go_upto_region 9 with (fail)
            refine wpS (fun W' => Ap w W' r d b 2 time _ (w.heap.size + 1) [.slice (some ⟨g, 0, none⟩) 2 cap, .int .i64 t, .int .i64 since, .int .i64 used, .bool true, .int .i64 (-1)] g ([x, y]) rest') (H.set 0 _) ?_
            clear x0 x1' x2' x3 x4 x5 hfx hgg e0 e1 H
            rintro W2 H
            obtain ⟨x0, x1', x2', x3, x4, x5⟩ := H.rx.c6
            have hfx := H.rx.frozen
            obtain ⟨e0, e1⟩ := H.re.c2
            have hgg := H.hg
            go_upto_region 11 with (fail)
            refine wpS (fun W' => Ap w W' r d b 2 time _ (w.heap.size + 1) [.slice (some ⟨g, 0, none⟩) 2 cap, .int .i64 t, .int .i64 since, .int .i64 used, .bool false, .int .i64 (-1)] g ([x, y]) rest') (H.set 4 _) ?_
            clear x0 x1' x2' x3 x4 x5 hfx hgg e0 e1 H
            rintro W2 H
            obtain ⟨x0, x1', x2', x3, x4, x5⟩ := H.rx.c6
            have hfx := H.rx.frozen
            obtain ⟨e0, e1⟩ := H.re.c2
            have hgg := H.hg
            go_upto_region 12 with (fail)
            refine wpS (fun W' => Ap w W' r d b 2 time _ (w.heap.size + 1) [.slice (some ⟨g, 0, none⟩) 2 cap, .int .i64 t, .int .i64 since, .int .i64 used, .bool false, .int .i64 (t : Int)] g ([x, y]) rest') (H.set 5 _) ?_
            clear x0 x1' x2' x3 x4 x5 hfx hgg e0 e1 H
            rintro W2 H
            obtain ⟨x0, x1', x2', x3, x4, x5⟩ := H.rx.c6
            have hfx := H.rx.frozen
            obtain ⟨e0, e1⟩ := H.re.c2
            have hgg := H.hg
            obtain ⟨zz, hzz⟩ := pair_at H.rg ht2
            have hfg := H.rg.frozen
            obtain ⟨k0, k1, k2⟩ := H.rr.c3
            go_upto_region 13 with (fail)
            refine wpS (fun W' => Ap w W' r d b 2 time _ (w.heap.size + 1) [.slice (some ⟨g, 0, none⟩) 2 cap, .int .i64 t, .int .i64 since, .int .i64 used, .bool false, .int .i64 (t : Int)] g ([x, y].set t 0) rest') (H.put t 0 (by simpa using ht2)) ?_
            clear x0 x1' x2' x3 x4 x5 hfx hgg e0 e1 H zz hzz hfg k0 k1 k2
            rintro W2 H
            obtain ⟨x0, x1', x2', x3, x4, x5⟩ := H.rx.c6
            have hfx := H.rx.frozen
            obtain ⟨e0, e1⟩ := H.re.c2
            have hgg := H.hg
            go_upto_region 14 with (fail)
            refine wpS (fun W' => Ap w W' r d b 2 time _ (w.heap.size + 1) [.slice (some ⟨g, 0, none⟩) 2 cap, .int .i64 t, .int .i64 0, .int .i64 0, .bool false, .int .i64 (t : Int)] g ([x, y].set t 0) rest') ((H.set 2 _).set 3 _) ?_
            clear x0 x1' x2' x3 x4 x5 hfx hgg e0 e1 H
            rintro W2 H
            obtain ⟨x0, x1', x2', x3, x4, x5⟩ := H.rx.c6
            have ro := H.ro
            obtain ⟨z0, z1', z2, z3, z4, z5⟩ := ro.c6
            have hfz := ro.frozen
            have qq := H.bel
            have rgg := H.rg
            have hgg := H.hg
            go_wp2_with fail
            refine bp_gen (fun W5 => RowB W5 (w.heap.size + 3) 30 [.slice (some ⟨g, 0, none⟩) 2 cap, .int .i64 t, .int .i64 0, .int .i64 0, .bool false, .int .i64 (t : Int)] ∧ Below w.heap.size w W5 ∧ RowB W5 g 2 (([x, y].set t 0).flatMap enI ++ rest')) ⟨((((((ro.set 0 _).set 1 _).set 2 _).set 3 _).set 4 _).set 5 _), by go_grown, ?_⟩ ?_
            · have hn : g ≠ w.heap.size + 3 := by omega
              exact (((((rgg.other (by exact hn) _).other (by exact hn) _).other (by exact hn) _).other (by exact hn) _).other (by exact hn) _).other (by exact hn) _
            clear z0 z1' z2 z3 z4 z5 hfz ro qq rgg x0 x1' x2' x3 x4 x5
            rintro W5 ⟨ro, q5, rgg⟩
            obtain ⟨z0, z1', z2, z3, z4, z5⟩ := ro.c6
            refine bodyPost_ret (v := .tuple #[.agg #[.slice (some ⟨g, 0, none⟩) 2 cap, .int .i64 t, .int .i64 0, .int .i64 0, .bool false, .int .i64 (t : Int)], .int .i64 0]) (by simp [results, Try.results32, go_sem, z0, z1', z2, z3, z4, z5]) rfl ?_
            refine ⟨some ⟨g, 0, none⟩, cap, by rw [List.length_set]; rfl, q5, ?_⟩
            exact H.own rgg (by simp; try omega) (by omega) (by simp; try omega)
          · have hqb : (q == 0) = false := by simp [hqz]
            have hv : apR r d b [x, y] (t : Int) since used true (-1) 2 time = ([x, y], (t : Int), time, min el 100000000, false, -1, 0) := by unfold apR; rw [if_pos H0.out, if_pos ⟨⟨hk1, hk2⟩, hk3, hk4⟩, if_pos ⟨rfl, by decide⟩, if_neg (by rw [HQ.out]; exact fun hh => hqz hh.2), if_neg (by decide), if_pos rfl, HE.out]
            obtain ⟨m, hm⟩ : ∃ m, min (el) 100000000 = m := ⟨_, rfl⟩
            rw [hv, hm] at h
            simp only [Prod.mk.injEq, Int.toNat_natCast] at h
            obtain ⟨rfl, rfl, rfl, rfl, rfl, rfl, rfl⟩ := h
            clear hv hfall
            have em : (if (100000000 : Int) < el then 100000000 else el) = m := by rw [← hm]; simp only [Int.min_def]; split <;> split <;> omega
            clear hm
            have hBw : B ≤ w1.heap.size := by omega
            go_wp2
            go_region_held3 (fun w' => (w'.cell? ⟨w.heap.size, 0, none⟩ = some (.int .i64 r) ∧ w'.cell? ⟨w.heap.size, 1, none⟩ = some (.int .i64 d) ∧ w'.cell? ⟨w.heap.size, 2, none⟩ = some (.int .i64 b)) ∧ (w'.cell? ⟨w.heap.size + 1, 0, none⟩ = some (.slice A 2 cp) ∧ w'.cell? ⟨w.heap.size + 1, 1, none⟩ = some (.int .i64 (t : Int)) ∧ w'.cell? ⟨w.heap.size + 1, 2, none⟩ = some (.int .i64 since) ∧ w'.cell? ⟨w.heap.size + 1, 3, none⟩ = some (.int .i64 used) ∧ w'.cell? ⟨w.heap.size + 1, 4, none⟩ = some (.bool true) ∧ w'.cell? ⟨w.heap.size + 1, 5, none⟩ = some (.int .i64 (-1))) ∧ (w'.cell? ⟨w.heap.size + 2, 0, none⟩ = some (.int .i64 2) ∧ w'.cell? ⟨w.heap.size + 2, 1, none⟩ = some (.int .i64 time))) (exact ⟨rr.c3, rs.c6, re.c2⟩) (first | (go_at_call 53; refine (CR.out _ (by first | exact hBw | go_size) (by exact hr)).mono ?_; rintro e w2 ⟨rfl, hb2⟩; have t2 : Below w1.heap.size w1 w2 := Below.then_ (by go_grown) hb2 (by go_size); have z2 := t2.size; have q2 := q1.trans (t2.mono q1.size); have rr := rr.below t2 (by omega); have rs := rs.below t2 (by omega); have re := re.below t2 (by omega); have ro := ro.below t2 l1; have l2 := ro.lt; have hr := hr.below t2 (by omega)) | (go_at_call 58; refine (CE.out _).mono ?_; rintro e w3 ⟨rfl, hb3⟩; have t3 : Below w2.heap.size w2 w3 := Below.then_ (by go_grown) hb3 (by go_size); have z3 := t3.size; have q3 := q2.trans (t3.mono q2.size); have rr := rr.below t3 (by omega); have rs := rs.below t3 (by omega); have re := re.below t3 (by omega); have ro := ro.below t3 l2; have l3 := ro.lt; have hr := hr.below t3 (by omega)) | fail)
            clear k0 k1 k2 p0 p1 p2 p3 p4 p5 e0 e1 hb2 hb3 t2 t3
            obtain ⟨p0, p1, p2, p3, p4, p5⟩ := rs.c6
            go_wp2_with fail
            clear p0 p1 p2 p3 p4 p5
            refine (clone A cp B [x, y] _ (by omega) (by exact hr) HA.out (by simp)).mono ?_
            rintro e w4 ⟨⟨v, rfl, o4⟩, hb4⟩
            rcases o4.cases_ with ⟨_, hnil⟩ | ⟨g, cap, rest', rfl, hlo, hhi, hRg, hnc, hcm, hl⟩
            · cases hnil
            have t4 : Below w3.heap.size w3 w4 := Below.then_ (by go_grown) hb4 (by go_size)
            have hlo' : w3.heap.size ≤ g := by first | exact hlo | simpa using hlo
            have H : Ap w w4 r d b 2 time [] (w.heap.size + 1) [.slice A 2 cp, .int .i64 t, .int .i64 since, .int .i64 used, .bool true, .int .i64 (-1)] g [x, y] rest' := ⟨rr.below t4 (by omega), fun hh => absurd rfl hh, re.below t4 (by omega), ro.below t4 l3, rs.below t4 (by omega), hRg, by omega, by omega, by omega, q3.trans (t4.mono q3.size)⟩
            simp only [List.length_cons, List.length_nil, Nat.zero_add, Nat.reduceAdd, Nat.mul_one] at hl hnc
            clear o4 hRg rr rs re ro hr hb4 t4 q1 q2 q3 CR CE
            obtain ⟨x0, x1', x2', x3, x4, x5⟩ := H.rx.c6
            have hfx := H.rx.frozen
            obtain ⟨e0, e1⟩ := H.re.c2
            have hgg := H.hg
            go_upto_region 9 with (fail)
            refine wpS (fun W' => Ap w W' r d b 2 time _ (w.heap.size + 1) [.slice (some ⟨g, 0, none⟩) 2 cap, .int .i64 t, .int .i64 since, .int .i64 used, .bool true, .int .i64 (-1)] g ([x, y]) rest') (H.set 0 _) ?_
            clear x0 x1' x2' x3 x4 x5 hfx hgg e0 e1 H
            rintro W2 H
            obtain ⟨x0, x1', x2', x3, x4, x5⟩ := H.rx.c6
            have hfx := H.rx.frozen
            obtain ⟨e0, e1⟩ := H.re.c2
            have hgg := H.hg
            go_upto_region 16 with (fail)
            refine wpS (fun W' => Ap w W' r d b 2 time _ (w.heap.size + 1) [.slice (some ⟨g, 0, none⟩) 2 cap, .int .i64 t, .int .i64 time, .int .i64 used, .bool true, .int .i64 (-1)] g ([x, y]) rest') (H.set 2 _) ?_
            clear x0 x1' x2' x3 x4 x5 hfx hgg e0 e1 H
            rintro W2 H
            obtain ⟨x0, x1', x2', x3, x4, x5⟩ := H.rx.c6
            have hfx := H.rx.frozen
            obtain ⟨e0, e1⟩ := H.re.c2
            have hgg := H.hg
            go_upto_region 23 with (fail)
            refine wpS (fun W' => Ap w W' r d b 2 time _ (w.heap.size + 1) [.slice (some ⟨g, 0, none⟩) 2 cap, .int .i64 t, .int .i64 time, .int .i64 m, .bool true, .int .i64 (-1)] g ([x, y]) rest') (H.set 3 _) ?_
            clear x0 x1' x2' x3 x4 x5 hfx hgg e0 e1 H
            rintro W2 H
            obtain ⟨x0, x1', x2', x3, x4, x5⟩ := H.rx.c6
            have hfx := H.rx.frozen
            obtain ⟨e0, e1⟩ := H.re.c2
            have hgg := H.hg
            go_upto_region 26 with (fail)
            refine wpS (fun W' => Ap w W' r d b 2 time _ (w.heap.size + 1) [.slice (some ⟨g, 0, none⟩) 2 cap, .int .i64 t, .int .i64 time, .int .i64 m, .bool false, .int .i64 (-1)] g ([x, y]) rest') (H.set 4 _) ?_
            clear x0 x1' x2' x3 x4 x5 hfx hgg e0 e1 H
            rintro W2 H
            obtain ⟨x0, x1', x2', x3, x4, x5⟩ := H.rx.c6
            have ro := H.ro
            obtain ⟨z0, z1', z2, z3, z4, z5⟩ := ro.c6
            have hfz := ro.frozen
            have qq := H.bel
            have rgg := H.rg
            have hgg := H.hg
            go_wp2_with fail
            refine bp_gen (fun W5 => RowB W5 (w.heap.size + 3) 30 [.slice (some ⟨g, 0, none⟩) 2 cap, .int .i64 t, .int .i64 time, .int .i64 m, .bool false, .int .i64 (-1)] ∧ Below w.heap.size w W5 ∧ RowB W5 g 2 ([x, y].flatMap enI ++ rest')) ⟨((((((ro.set 0 _).set 1 _).set 2 _).set 3 _).set 4 _).set 5 _), by go_grown, ?_⟩ ?_
            · have hn : g ≠ w.heap.size + 3 := by omega
              exact (((((rgg.other (by exact hn) _).other (by exact hn) _).other (by exact hn) _).other (by exact hn) _).other (by exact hn) _).other (by exact hn) _
            clear z0 z1' z2 z3 z4 z5 hfz ro qq rgg x0 x1' x2' x3 x4 x5
            rintro W5 ⟨ro, q5, rgg⟩
            obtain ⟨z0, z1', z2, z3, z4, z5⟩ := ro.c6
            refine bodyPost_ret (v := .tuple #[.agg #[.slice (some ⟨g, 0, none⟩) 2 cap, .int .i64 t, .int .i64 time, .int .i64 m, .bool false, .int .i64 (-1)], .int .i64 0]) (by simp [results, Try.results32, go_sem, z0, z1', z2, z3, z4, z5]) rfl ?_
            refine ⟨some ⟨g, 0, none⟩, cap, rfl, q5, ?_⟩
            exact H.own rgg (by simp; try omega) (by omega) (by simp; try omega)
        · generalize hqq : rest (sideOf [x, y] (t : Int)) d since used false time = q at *
          generalize hee : elap since used false time = el at *
          have HQ := Lib.hid hqq; clear hqq
          have HE := Lib.hid hee; clear hee
          have CR := Lib.hid CR
          have CE := Lib.hid CE
          obtain ⟨hq0, hq1⟩ := hq
          obtain ⟨he0, he1⟩ := he
          have hv : apR r d b [x, y] (t : Int) since used false (-1) 3 time = ([x, y], (t : Int), time, used, true, -1, 0) := by unfold apR; rw [if_pos H0.out, if_pos ⟨⟨hk1, hk2⟩, hk3, hk4⟩, if_pos ⟨rfl, by decide⟩, if_neg (fun hh => by simp at hh), if_neg (by decide), if_neg (by decide)]
          rw [hv] at h
          simp only [Prod.mk.injEq, Int.toNat_natCast] at h
          obtain ⟨rfl, rfl, rfl, rfl, rfl, rfl, rfl⟩ := h
          clear hv hfall
          have hBw : B ≤ w1.heap.size := by omega
          go_wp2
          go_region_held3 (fun w' => (w'.cell? ⟨w.heap.size, 0, none⟩ = some (.int .i64 r) ∧ w'.cell? ⟨w.heap.size, 1, none⟩ = some (.int .i64 d) ∧ w'.cell? ⟨w.heap.size, 2, none⟩ = some (.int .i64 b)) ∧ (w'.cell? ⟨w.heap.size + 1, 0, none⟩ = some (.slice A 2 cp) ∧ w'.cell? ⟨w.heap.size + 1, 1, none⟩ = some (.int .i64 (t : Int)) ∧ w'.cell? ⟨w.heap.size + 1, 2, none⟩ = some (.int .i64 since) ∧ w'.cell? ⟨w.heap.size + 1, 3, none⟩ = some (.int .i64 used) ∧ w'.cell? ⟨w.heap.size + 1, 4, none⟩ = some (.bool false) ∧ w'.cell? ⟨w.heap.size + 1, 5, none⟩ = some (.int .i64 (-1))) ∧ (w'.cell? ⟨w.heap.size + 2, 0, none⟩ = some (.int .i64 3) ∧ w'.cell? ⟨w.heap.size + 2, 1, none⟩ = some (.int .i64 time))) (exact ⟨rr.c3, rs.c6, re.c2⟩) (first | (go_at_call 53; refine (CR.out _ (by first | exact hBw | go_size) (by exact hr)).mono ?_; rintro e w2 ⟨rfl, hb2⟩; have t2 : Below w1.heap.size w1 w2 := Below.then_ (by go_grown) hb2 (by go_size); have z2 := t2.size; have q2 := q1.trans (t2.mono q1.size); have rr := rr.below t2 (by omega); have rs := rs.below t2 (by omega); have re := re.below t2 (by omega); have ro := ro.below t2 l1; have l2 := ro.lt; have hr := hr.below t2 (by omega)) | (go_at_call 58; refine (CE.out _).mono ?_; rintro e w3 ⟨rfl, hb3⟩; have t3 : Below w2.heap.size w2 w3 := Below.then_ (by go_grown) hb3 (by go_size); have z3 := t3.size; have q3 := q2.trans (t3.mono q2.size); have rr := rr.below t3 (by omega); have rs := rs.below t3 (by omega); have re := re.below t3 (by omega); have ro := ro.below t3 l2; have l3 := ro.lt; have hr := hr.below t3 (by omega)) | fail)
          clear k0 k1 k2 p0 p1 p2 p3 p4 p5 e0 e1 hb2 hb3 t2 t3
          obtain ⟨p0, p1, p2, p3, p4, p5⟩ := rs.c6
          go_wp2_with fail
          clear p0 p1 p2 p3 p4 p5
          refine (clone A cp B [x, y] _ (by omega) (by exact hr) HA.out (by simp)).mono ?_
          rintro e w4 ⟨⟨v, rfl, o4⟩, hb4⟩
          rcases o4.cases_ with ⟨_, hnil⟩ | ⟨g, cap, rest', rfl, hlo, hhi, hRg, hnc, hcm, hl⟩
          · cases hnil
          have t4 : Below w3.heap.size w3 w4 := Below.then_ (by go_grown) hb4 (by go_size)
          have hlo' : w3.heap.size ≤ g := by first | exact hlo | simpa using hlo
          have H : Ap w w4 r d b 3 time [] (w.heap.size + 1) [.slice A 2 cp, .int .i64 t, .int .i64 since, .int .i64 used, .bool false, .int .i64 (-1)] g [x, y] rest' := ⟨rr.below t4 (by omega), fun hh => absurd rfl hh, re.below t4 (by omega), ro.below t4 l3, rs.below t4 (by omega), hRg, by omega, by omega, by omega, q3.trans (t4.mono q3.size)⟩
          simp only [List.length_cons, List.length_nil, Nat.zero_add, Nat.reduceAdd, Nat.mul_one] at hl hnc
          clear o4 hRg rr rs re ro hr hb4 t4 q1 q2 q3 CR CE
          obtain ⟨x0, x1', x2', x3, x4, x5⟩ := H.rx.c6
          have hfx := H.rx.frozen
          obtain ⟨e0, e1⟩ := H.re.c2
          have hgg := H.hg
          go_upto_region 9 with (fail)
          refine wpS (fun W' => Ap w W' r d b 3 time _ (w.heap.size + 1) [.slice (some ⟨g, 0, none⟩) 2 cap, .int .i64 t, .int .i64 since, .int .i64 used, .bool false, .int .i64 (-1)] g ([x, y]) rest') (H.set 0 _) ?_
          clear x0 x1' x2' x3 x4 x5 hfx hgg e0 e1 H
          rintro W2 H
          obtain ⟨x0, x1', x2', x3, x4, x5⟩ := H.rx.c6
          have hfx := H.rx.frozen
          obtain ⟨e0, e1⟩ := H.re.c2
          have hgg := H.hg
          go_upto_region 16 with (fail)
          refine wpS (fun W' => Ap w W' r d b 3 time _ (w.heap.size + 1) [.slice (some ⟨g, 0, none⟩) 2 cap, .int .i64 t, .int .i64 time, .int .i64 used, .bool false, .int .i64 (-1)] g ([x, y]) rest') (H.set 2 _) ?_
          clear x0 x1' x2' x3 x4 x5 hfx hgg e0 e1 H
          rintro W2 H
          obtain ⟨x0, x1', x2', x3, x4, x5⟩ := H.rx.c6
          have hfx := H.rx.frozen
          obtain ⟨e0, e1⟩ := H.re.c2
          have hgg := H.hg
          go_upto_region 26 with (fail)
          refine wpS (fun W' => Ap w W' r d b 3 time _ (w.heap.size + 1) [.slice (some ⟨g, 0, none⟩) 2 cap, .int .i64 t, .int .i64 time, .int .i64 used, .bool true, .int .i64 (-1)] g ([x, y]) rest') (H.set 4 _) ?_
          clear x0 x1' x2' x3 x4 x5 hfx hgg e0 e1 H
          rintro W2 H
          obtain ⟨x0, x1', x2', x3, x4, x5⟩ := H.rx.c6
          have ro := H.ro
          obtain ⟨z0, z1', z2, z3, z4, z5⟩ := ro.c6
          have hfz := ro.frozen
          have qq := H.bel
          have rgg := H.rg
          have hgg := H.hg
          go_wp2_with fail
          refine bp_gen (fun W5 => RowB W5 (w.heap.size + 3) 30 [.slice (some ⟨g, 0, none⟩) 2 cap, .int .i64 t, .int .i64 time, .int .i64 used, .bool true, .int .i64 (-1)] ∧ Below w.heap.size w W5 ∧ RowB W5 g 2 ([x, y].flatMap enI ++ rest')) ⟨((((((ro.set 0 _).set 1 _).set 2 _).set 3 _).set 4 _).set 5 _), by go_grown, ?_⟩ ?_
          · have hn : g ≠ w.heap.size + 3 := by omega
            exact (((((rgg.other (by exact hn) _).other (by exact hn) _).other (by exact hn) _).other (by exact hn) _).other (by exact hn) _).other (by exact hn) _
          clear z0 z1' z2 z3 z4 z5 hfz ro qq rgg x0 x1' x2' x3 x4 x5
          rintro W5 ⟨ro, q5, rgg⟩
          obtain ⟨z0, z1', z2, z3, z4, z5⟩ := ro.c6
          refine bodyPost_ret (v := .tuple #[.agg #[.slice (some ⟨g, 0, none⟩) 2 cap, .int .i64 t, .int .i64 time, .int .i64 used, .bool true, .int .i64 (-1)], .int .i64 0]) (by simp [results, Try.results32, go_sem, z0, z1', z2, z3, z4, z5]) rfl ?_
          refine ⟨some ⟨g, 0, none⟩, cap, rfl, q5, ?_⟩
          exact H.own rgg (by simp; try omega) (by omega) (by simp; try omega)
      · skip
        have hv : apR r d b [x, y] turn since used run fallen kind time = ([], 0, 0, 0, false, 0, 5) := by unfold apR; rw [if_pos H0.out, if_pos hk, if_neg hf]
        rw [hv] at h
        simp only [Prod.mk.injEq] at h
        obtain ⟨rfl, rfl, rfl, rfl, rfl, rfl, rfl⟩ := h
        clear hv
        obtain ⟨⟨hk1, hk2⟩, hk3, hk4⟩ := hk
        cases e5 : (fallen != -1)
        case true =>
          clear hf
          obtain ⟨z0, z1, z2, z3, z4, z5⟩ := ro.c6
          have hfz := ro.frozen
          go_wp2
          all_goals
            refine bp_gen (fun W5 => RowB W5 (w.heap.size + 3) 30 [.slice none 0 0, .int .i64 0, .int .i64 0, .int .i64 0, .bool false, .int .i64 0] ∧ Below w.heap.size w W5) ⟨((((((ro.set 0 _).set 1 _).set 2 _).set 3 _).set 4 _).set 5 _), by go_grown⟩ ?_
            clear z0 z1 z2 z3 z4 z5 hfz ro
            rintro W5 ⟨ro, q5⟩
            obtain ⟨z0, z1, z2, z3, z4, z5⟩ := ro.c6
            refine bodyPost_ret (v := .tuple #[.agg #[.slice none 0 0, .int .i64 0, .int .i64 0, .int .i64 0, .bool false, .int .i64 0], .int .i64 5]) (by simp [results, Try.results32, go_sem, z0, z1, z2, z3, z4, z5]) rfl ?_
            exact ⟨none, 0, rfl, q5, OwnS.nil_ _ _ _ _ _ _⟩
        case false =>
          obtain rfl : fallen = -1 := by simpa using e5
          have e7 : (run == (kind == 3)) = true := e7no hf
          clear hf e5
          obtain ⟨z0, z1, z2, z3, z4, z5⟩ := ro.c6
          have hfz := ro.frozen
          go_wp2
          all_goals
            refine bp_gen (fun W5 => RowB W5 (w.heap.size + 3) 30 [.slice none 0 0, .int .i64 0, .int .i64 0, .int .i64 0, .bool false, .int .i64 0] ∧ Below w.heap.size w W5) ⟨((((((ro.set 0 _).set 1 _).set 2 _).set 3 _).set 4 _).set 5 _), by go_grown⟩ ?_
            clear z0 z1 z2 z3 z4 z5 hfz ro
            rintro W5 ⟨ro, q5⟩
            obtain ⟨z0, z1, z2, z3, z4, z5⟩ := ro.c6
            refine bodyPost_ret (v := .tuple #[.agg #[.slice none 0 0, .int .i64 0, .int .i64 0, .int .i64 0, .bool false, .int .i64 0], .int .i64 5]) (by simp [results, Try.results32, go_sem, z0, z1, z2, z3, z4, z5]) rfl ?_
            exact ⟨none, 0, rfl, q5, OwnS.nil_ _ _ _ _ _ _⟩
    · skip
      have hv : apR r d b [x, y] turn since used run fallen kind time = ([], 0, 0, 0, false, 0, 2) := by unfold apR; rw [if_pos H0.out, if_neg hk]
      rw [hv] at h
      simp only [Prod.mk.injEq] at h
      obtain ⟨rfl, rfl, rfl, rfl, rfl, rfl, rfl⟩ := h
      clear hv
      by_cases u1 : 1 ≤ kind <;> by_cases u2 : kind ≤ 3 <;> by_cases u3 : since ≤ time <;> by_cases u4 : time ≤ 100000000
      all_goals try (exfalso; omega)
      all_goals clear hk
      all_goals
        try have hd_u1 : decide (1 ≤ kind) = false := decide_eq_false u1
        try have hd_u2 : decide (kind ≤ 3) = false := decide_eq_false u2
        try have hd_u3 : decide (since ≤ time) = false := decide_eq_false u3
        try have hd_u4 : decide (time ≤ 100000000) = false := decide_eq_false u4
        obtain ⟨z0, z1, z2, z3, z4, z5⟩ := ro.c6
        have hfz := ro.frozen
        go_wp2
        all_goals
          refine bp_gen (fun W5 => RowB W5 (w.heap.size + 3) 30 [.slice none 0 0, .int .i64 0, .int .i64 0, .int .i64 0, .bool false, .int .i64 0] ∧ Below w.heap.size w W5) ⟨((((((ro.set 0 _).set 1 _).set 2 _).set 3 _).set 4 _).set 5 _), by go_grown⟩ ?_
          clear z0 z1 z2 z3 z4 z5 hfz ro
          rintro W5 ⟨ro, q5⟩
          obtain ⟨z0, z1, z2, z3, z4, z5⟩ := ro.c6
          refine bodyPost_ret (v := .tuple #[.agg #[.slice none 0 0, .int .i64 0, .int .i64 0, .int .i64 0, .bool false, .int .i64 0], .int .i64 2]) (by simp [results, Try.results32, go_sem, z0, z1, z2, z3, z4, z5]) rfl ?_
          exact ⟨none, 0, rfl, q5, OwnS.nil_ _ _ _ _ _ _⟩
  · skip
    have hv : apR r d b xs turn since used run fallen kind time = ([], 0, 0, 0, false, 0, 1) := by unfold apR; rw [if_neg h0]
    rw [hv] at h
    simp only [Prod.mk.injEq] at h
    obtain ⟨rfl, rfl, rfl, rfl, rfl, rfl, rfl⟩ := h
    clear hv
    have h0 : okCS r d b xs turn since used run fallen = false := by simpa using h0
    go_enter Try.func32, Try.ntmps32
    go_wp2_with fail
    refine (isCS_impl r d b A cp B xs turn since used run fallen _ (by simp; omega) (hr.below (by go_grown) hB)).mono ?_
    rw [h0]
    clear h0
    rintro e w1 ⟨rfl, hb1⟩
    have rr := ((((RowB.new _ _ _).alloc _).alloc _).alloc _).below hb1 (by simp; try omega)
    have rs := (((RowB.new _ _ _).alloc _).alloc _).below hb1 (by simp; try omega)
    have re := ((RowB.new _ _ _).alloc _).below hb1 (by simp; try omega)
    have ro := (RowB.new _ _ _).below hb1 (by simp; try omega)
    have q1 : Below w.heap.size w w1 := Below.then_ (by go_grown) hb1 (by simp; omega)
    simp only [World.size_alloc] at rs re ro
    have hr := hr.below q1 hB
    have z1 := q1.size
    clear hb1
    obtain ⟨k0, k1, k2⟩ := rr.c3
    obtain ⟨p0, p1, p2, p3, p4, p5⟩ := rs.c6
    obtain ⟨e0, e1⟩ := re.c2
    have l1 := ro.lt
    obtain ⟨z0, z1, z2, z3, z4, z5⟩ := ro.c6
    have hfz := ro.frozen
    go_wp2
    all_goals
      refine bp_gen (fun W5 => RowB W5 (w.heap.size + 3) 30 [.slice none 0 0, .int .i64 0, .int .i64 0, .int .i64 0, .bool false, .int .i64 0] ∧ Below w.heap.size w W5) ⟨((((((ro.set 0 _).set 1 _).set 2 _).set 3 _).set 4 _).set 5 _), by go_grown⟩ ?_
      clear z0 z1 z2 z3 z4 z5 hfz ro
      rintro W5 ⟨ro, q5⟩
      obtain ⟨z0, z1, z2, z3, z4, z5⟩ := ro.c6
      refine bodyPost_ret (v := .tuple #[.agg #[.slice none 0 0, .int .i64 0, .int .i64 0, .int .i64 0, .bool false, .int .i64 0], .int .i64 1]) (by simp [results, Try.results32, go_sem, z0, z1, z2, z3, z4, z5]) rfl ?_
      exact ⟨none, 0, rfl, q5, OwnS.nil_ _ _ _ _ _ _⟩

set_option maxHeartbeats 8000000 in
set_option maxRecDepth 100000 in
theorem la_spec (r d b : Int) (A : Option Addr) (cp B : Nat) (xs : List Int) (turn since used : Int) (run : Bool) (fallen kind time : Int) (w : World) (gs : List Int) (tu si us : Int) (ru : Bool) (fa : Int) (hB : B ≤ w.heap.size) (hr : RdS w B 1 enI A xs) (h0 : okCS r d b xs turn since used run fallen = true) (hk : (1 ≤ kind ∧ kind ≤ 3) ∧ (since ≤ time ∧ time ≤ 100000000)) (hf : fallen = -1 ∧ run = !decide (kind = 3)) (h : apR r d b xs turn since used run fallen kind time = (gs, tu, si, us, ru, fa, 0)) :
    Calls Try.prog 60 #[.agg #[.int .i64 r, .int .i64 d, .int .i64 b], .agg #[.slice A xs.length cp, .int .i64 turn, .int .i64 since, .int .i64 used, .bool run, .int .i64 fallen], .agg #[.int .i64 kind, .int .i64 time]] w fun e w' => ∃ A cp, e = .returned (.agg #[.slice A gs.length cp, .int .i64 tu, .int .i64 si, .int .i64 us, .bool ru, .int .i64 fa]) ∧ Below w.heap.size w w' ∧ OwnS w' w.heap.size w'.heap.size 2 1 enI (.slice A gs.length cp) gs := by
  have H0 := Lib.hid h0
  obtain ⟨x, y, hxy, ⟨r1, r2⟩, ⟨d1, d2⟩, ⟨b1, b2⟩, ⟨x1, x2⟩, ⟨y1, y2⟩, ht, ⟨s1, s2⟩, ⟨u1, u2⟩, hfall⟩ := okCS_elim h0
  subst hxy
  obtain ⟨bk, off, x', rfl, hb, hx0, hc0⟩ := rdI_at hr (i := 0) (by simp)
  obtain ⟨bk', off', y', e1, hb', hx1, hc1⟩ := rdI_at hr (i := 1) (by simp)
  simp only [Option.some.injEq, Addr.mk.injEq, and_true] at e1
  obtain ⟨rfl, rfl⟩ := e1
  simp only [List.getElem?_cons_zero, List.getElem?_cons_succ, Option.some.injEq] at hx0 hx1
  subst hx0 hx1
  simp only [Nat.add_zero] at hc0
  have hbk : bk < w.heap.size := by omega
  clear h0 hb hb'
  obtain ⟨⟨hk1, hk2⟩, hk3, hk4⟩ := hk
  obtain ⟨rfl, hrun⟩ := hf
  obtain ⟨t, rfl⟩ : ∃ t : Nat, turn = t := ⟨turn.toNat, by omega⟩
  have ht2 : t < 2 := by omega
  have hq := rest_bd (d := d) (since := since) (used := used) (time := time) (run := run) ht x2 y2
  have he := elap_bd (run := run) s1 s2 u1 u2 hk3 hk4
  have CR := fun w0 h1 h2 => rest_spec r d b (some ⟨bk, off, none⟩) cp B x y (t : Int) since used run (-1) time w0 h1 h2 ht x1 x2 y1 y2 d1 d2 s1 s2 u1 u2 hk3 hk4
  have CE := fun w0 => el_spec (some ⟨bk, off, none⟩) 2 cp (t : Int) since used run (-1) time w0 s1 s2 u1 u2 hk3 hk4
  have HRUN := Lib.hid hrun; clear hrun
  go_enter Try.func60, Try.ntmps60
  go_upto_region 1 with (fail)
  refine wp_gen (fun W' => Below w.heap.size w W' ∧ RowB W' w.heap.size 25 [.int .i64 r, .int .i64 d, .int .i64 b] ∧ RowB W' (w.heap.size + 1) 30 [.slice (some ⟨bk, off, none⟩) 2 cp, .int .i64 (t : Int), .int .i64 since, .int .i64 used, .bool run, .int .i64 (-1)] ∧ RowB W' (w.heap.size + 2) 54 [.int .i64 kind, .int .i64 time] ∧ RowB W' (w.heap.size + 3) 30 [.slice none 0 0, .int .i64 0, .int .i64 0, .int .i64 0, .bool false, .int .i64 0]) ⟨by go_grown, (((RowB.new' _ _ _ (by first | rfl | simp)).alloc _).alloc _).alloc _, ((RowB.new' _ _ _ (by first | rfl | simp)).alloc _).alloc _, (RowB.new' _ _ _ (by first | rfl | simp)).alloc _, RowB.new' _ _ _ (by first | rfl | simp)⟩ ?_
  rintro w1 ⟨q1, rr, rs, re, ro⟩
  have c0 := (q1.cell (p := ⟨bk, off, none⟩) hbk).trans hc0
  have c1 := (q1.cell (p := ⟨bk, off + 1, none⟩) hbk).trans hc1
  have hr := hr.below q1 hB
  have l1 := ro.lt
  have lr := rr.lt
  have ls := rs.lt
  have le := re.lt
  have hbk1 : bk < w1.heap.size := by omega
  clear hc0 hc1
  obtain ⟨e0, e1⟩ := re.c2
  obtain ⟨p0, p1, p2, p3, p4, p5⟩ := rs.c6
  go_cut [7] from 9 to 26 (fun t7 wx => ∃ go g : Nat, t7 = .pointer (some ⟨go, 0, none⟩) ∧ go ≠ w.heap.size + 1 ∧ Below w1.heap.size w1 wx ∧ Ap w wx r d b kind time [.slice (some ⟨bk, off, none⟩) 2 cp, .int .i64 (t : Int), .int .i64 since, .int .i64 used, .bool run, .int .i64 (-1)] go [.slice (some ⟨g, 0, none⟩) 2 2, .int .i64 t, .int .i64 time, .int .i64 used, .bool run, .int .i64 (-1)] g [x, y] [])
  case first =>
    have HS : Hid (∀ W' : World, Below w1.heap.size w1 W' → ((W'.cell? ⟨w.heap.size + 1, 0, none⟩ = some (.slice (some ⟨bk, off, none⟩) 2 cp)) ∧ (W'.cell? ⟨w.heap.size + 1, 1, none⟩ = some (.int .i64 (t : Int))) ∧ (W'.cell? ⟨w.heap.size + 1, 2, none⟩ = some (.int .i64 since)) ∧ (W'.cell? ⟨w.heap.size + 1, 3, none⟩ = some (.int .i64 used)) ∧ (W'.cell? ⟨w.heap.size + 1, 4, none⟩ = some (.bool run)) ∧ (W'.cell? ⟨w.heap.size + 1, 5, none⟩ = some (.int .i64 (-1)))) ∧ (W'.cell? ⟨w.heap.size + 2, 0, none⟩ = some (.int .i64 kind) ∧ W'.cell? ⟨w.heap.size + 2, 1, none⟩ = some (.int .i64 time)) ∧ W'.cell? ⟨bk, off, none⟩ = some (.int .i64 x) ∧ W'.cell? ⟨bk, off + 1, none⟩ = some (.int .i64 y)) := fun W' hb => ⟨(rs.below hb ls).c6, (re.below hb le).c2, (hb.cell (p := ⟨bk, off, none⟩) hbk1).trans c0, (hb.cell (p := ⟨bk, off + 1, none⟩) hbk1).trans c1⟩
    go_region_held3 (fun W' => ((W'.cell? ⟨w.heap.size + 1, 0, none⟩ = some (.slice (some ⟨bk, off, none⟩) 2 cp)) ∧ (W'.cell? ⟨w.heap.size + 1, 1, none⟩ = some (.int .i64 (t : Int))) ∧ (W'.cell? ⟨w.heap.size + 1, 2, none⟩ = some (.int .i64 since)) ∧ (W'.cell? ⟨w.heap.size + 1, 3, none⟩ = some (.int .i64 used)) ∧ (W'.cell? ⟨w.heap.size + 1, 4, none⟩ = some (.bool run)) ∧ (W'.cell? ⟨w.heap.size + 1, 5, none⟩ = some (.int .i64 (-1)))) ∧ (W'.cell? ⟨w.heap.size + 2, 0, none⟩ = some (.int .i64 kind) ∧ W'.cell? ⟨w.heap.size + 2, 1, none⟩ = some (.int .i64 time)) ∧ W'.cell? ⟨bk, off, none⟩ = some (.int .i64 x) ∧ W'.cell? ⟨bk, off + 1, none⟩ = some (.int .i64 y)) (exact HS.out _ (by go_grown)) (fail)
    all_goals go_wp2_with fail
    all_goals go_meet
    all_goals first | exact ⟨w1.heap.size + 1, w1.heap.size, rfl, by omega, by go_grown, RowB.drew ((rr.alloc _).alloc _), fun _ => RowB.drew ((rs.alloc _).alloc _), RowB.drew ((re.alloc _).alloc _), RowB.drew ((ro.alloc _).alloc _), RowB.drew (RowB.new' _ _ _ (by simp)), RowB.drew ((RowB.new _ _ _).alloc _), by omega, by omega, by omega, by go_grown⟩ | exact ⟨w1.heap.size, w1.heap.size + 1, rfl, by omega, by go_grown, RowB.drew ((rr.alloc _).alloc _), fun _ => RowB.drew ((rs.alloc _).alloc _), RowB.drew ((re.alloc _).alloc _), RowB.drew ((ro.alloc _).alloc _), RowB.drew ((RowB.new _ _ _).alloc _), RowB.drew (RowB.new' _ _ _ (by simp)), by omega, by omega, by omega, by go_grown⟩
  case rest =>
    obtain ⟨go, g, rfl, hgo1, hbw, H⟩ := hcut
    have HGO := Lib.hid hgo1
    have hr := hr.below hbw (by omega)
    have hBw : B ≤ wc.heap.size := by have := hbw.size; omega
    clear rr rs re ro e0 e1 p0 p1 p2 p3 p4 p5 c0 c1 q1 hbw
    have hrun := HRUN.out
    have hcase : (kind = 1 ∧ run = true) ∨ (kind = 2 ∧ run = true) ∨ (kind = 3 ∧ run = false) := by
      have : kind = 1 ∨ kind = 2 ∨ kind = 3 := by omega
      rcases this with rfl | rfl | rfl <;> simp at hrun <;> simp [hrun]
    clear hrun
    rcases hcase with ⟨rfl, rfl⟩ | ⟨rfl, rfl⟩ | ⟨rfl, rfl⟩
    · generalize hqq : rest (sideOf [x, y] (t : Int)) d since used true time = q at *
      generalize hee : elap since used true time = el at *
      have HQ := Lib.hid hqq; clear hqq
      have HE := Lib.hid hee; clear hee
      have CR := Lib.hid CR
      have CE := Lib.hid CE
      obtain ⟨hq0, hq1⟩ := hq
      obtain ⟨he0, he1⟩ := he
      obtain ⟨e0, e1⟩ := H.re.c2
      obtain ⟨p0, p1, p2, p3, p4, p5⟩ := (H.rs HGO.out).c6
      obtain ⟨k0, k1, k2⟩ := H.rr.c3
      go_wp2_with fail
      clear e0 e1 p0 p1 p2 p3 p4 p5 k0 k1 k2
      refine (CR.out _ hBw (by exact hr)).mono ?_
      rintro e w2 ⟨rfl, hb2⟩
      have H := H.below hb2
      clear hb2 CR hr hBw
      by_cases hqz : q = 0
      · subst hqz
        have hv : apR r d b [x, y] (t : Int) since used true (-1) 1 time = ([x, y].set (t : Int).toNat 0, (t : Int), 0, 0, false, (t : Int), 0) := by unfold apR; rw [if_pos H0.out, if_pos ⟨⟨hk1, hk2⟩, hk3, hk4⟩, if_pos ⟨rfl, by decide⟩, if_pos ⟨rfl, HQ.out⟩]
        rw [hv] at h
        simp only [Prod.mk.injEq, Int.toNat_natCast] at h
        obtain ⟨rfl, rfl, rfl, rfl, rfl, rfl, -⟩ := h
        clear hv hfall
        obtain ⟨x0, x1', x2', x3, x4, x5⟩ := H.rx.c6
        have hfx := H.rx.frozen
        obtain ⟨e0, e1⟩ := H.re.c2
        have hgg := H.hg
        obtain ⟨p0, p1, p2, p3, p4, p5⟩ := (H.rs HGO.out).c6
        obtain ⟨k0, k1, k2⟩ := H.rr.c3
        obtain ⟨zz, hzz⟩ := pair_at H.rg ht2
        have hfg := H.rg.frozen
        go_upto_region 5 with (fail)
        refine wpS (fun W' => Ap w W' r d b 1 time _ go [.slice (some ⟨g, 0, none⟩) 2 2, .int .i64 t, .int .i64 time, .int .i64 used, .bool true, .int .i64 (-1)] g ([x, y].set t 0) []) (H.put t 0 (by simpa using ht2)) ?_
        clear x0 x1' x2' x3 x4 x5 hfx hgg e0 e1 p0 p1 p2 p3 p4 p5 k0 k1 k2 H zz hzz hfg
        rintro W2 H
        obtain ⟨x0, x1', x2', x3, x4, x5⟩ := H.rx.c6
        have hfx := H.rx.frozen
        obtain ⟨e0, e1⟩ := H.re.c2
        have hgg := H.hg
        obtain ⟨p0, p1, p2, p3, p4, p5⟩ := (H.rs HGO.out).c6
        obtain ⟨k0, k1, k2⟩ := H.rr.c3
        go_upto_region 6 with (fail)
        refine wpS (fun W' => Ap w W' r d b 1 time _ go [.slice (some ⟨g, 0, none⟩) 2 2, .int .i64 t, .int .i64 0, .int .i64 used, .bool true, .int .i64 (-1)] g ([x, y].set t 0) []) (H.set 2 _) ?_
        clear x0 x1' x2' x3 x4 x5 hfx hgg e0 e1 p0 p1 p2 p3 p4 p5 k0 k1 k2 H
        rintro W2 H
        obtain ⟨x0, x1', x2', x3, x4, x5⟩ := H.rx.c6
        have hfx := H.rx.frozen
        obtain ⟨e0, e1⟩ := H.re.c2
        have hgg := H.hg
        obtain ⟨p0, p1, p2, p3, p4, p5⟩ := (H.rs HGO.out).c6
        obtain ⟨k0, k1, k2⟩ := H.rr.c3
        go_upto_region 7 with (fail)
        refine wpS (fun W' => Ap w W' r d b 1 time _ go [.slice (some ⟨g, 0, none⟩) 2 2, .int .i64 t, .int .i64 0, .int .i64 0, .bool true, .int .i64 (-1)] g ([x, y].set t 0) []) (H.set 3 _) ?_
        clear x0 x1' x2' x3 x4 x5 hfx hgg e0 e1 p0 p1 p2 p3 p4 p5 k0 k1 k2 H
        rintro W2 H
        obtain ⟨x0, x1', x2', x3, x4, x5⟩ := H.rx.c6
        have hfx := H.rx.frozen
        obtain ⟨e0, e1⟩ := H.re.c2
        have hgg := H.hg
        obtain ⟨p0, p1, p2, p3, p4, p5⟩ := (H.rs HGO.out).c6
        obtain ⟨k0, k1, k2⟩ := H.rr.c3
        go_upto_region 8 with (fail)
        refine wpS (fun W' => Ap w W' r d b 1 time _ go [.slice (some ⟨g, 0, none⟩) 2 2, .int .i64 t, .int .i64 0, .int .i64 0, .bool false, .int .i64 (-1)] g ([x, y].set t 0) []) (H.set 4 _) ?_
        clear x0 x1' x2' x3 x4 x5 hfx hgg e0 e1 p0 p1 p2 p3 p4 p5 k0 k1 k2 H
        rintro W2 H
        obtain ⟨x0, x1', x2', x3, x4, x5⟩ := H.rx.c6
        have hfx := H.rx.frozen
        obtain ⟨e0, e1⟩ := H.re.c2
        have hgg := H.hg
        obtain ⟨p0, p1, p2, p3, p4, p5⟩ := (H.rs HGO.out).c6
        obtain ⟨k0, k1, k2⟩ := H.rr.c3
        go_upto_region 9 with (fail)
        refine wpS (fun W' => Ap w W' r d b 1 time _ go [.slice (some ⟨g, 0, none⟩) 2 2, .int .i64 t, .int .i64 0, .int .i64 0, .bool false, .int .i64 (t : Int)] g ([x, y].set t 0) []) (H.set 5 _) ?_
        clear x0 x1' x2' x3 x4 x5 hfx hgg e0 e1 p0 p1 p2 p3 p4 p5 k0 k1 k2 H
        rintro W2 H
        have hl : 2 + ([] : List Value).length = 2 := rfl
        have hcm : (2 : Nat) ≤ maxLen := by decide
        obtain ⟨x0, x1', x2', x3, x4, x5⟩ := H.rx.c6
        have ro := H.ro
        obtain ⟨z0, z1', z2, z3, z4, z5⟩ := ro.c6
        have hfz := ro.frozen
        have qq := H.bel
        have rgg := H.rg
        have hgg := H.hg
        go_wp2_with fail
        refine bp_gen (fun W5 => RowB W5 (w.heap.size + 3) 30 [.slice (some ⟨g, 0, none⟩) 2 2, .int .i64 t, .int .i64 0, .int .i64 0, .bool false, .int .i64 (t : Int)] ∧ Below w.heap.size w W5 ∧ RowB W5 g 2 (([x, y].set t 0).flatMap enI ++ [])) ⟨((((((ro.set 0 _).set 1 _).set 2 _).set 3 _).set 4 _).set 5 _), by go_grown, ?_⟩ ?_
        · have hn : g ≠ w.heap.size + 3 := by omega
          exact (((((rgg.other (by exact hn) _).other (by exact hn) _).other (by exact hn) _).other (by exact hn) _).other (by exact hn) _).other (by exact hn) _
        clear z0 z1' z2 z3 z4 z5 hfz ro qq rgg x0 x1' x2' x3 x4 x5
        rintro W5 ⟨ro, q5, rgg⟩
        obtain ⟨z0, z1', z2, z3, z4, z5⟩ := ro.c6
        refine bodyPost_ret (v := .agg #[.slice (some ⟨g, 0, none⟩) 2 2, .int .i64 t, .int .i64 0, .int .i64 0, .bool false, .int .i64 (t : Int)]) (by simp [results, Try.results60, go_sem, z0, z1', z2, z3, z4, z5]) rfl ?_
        refine ⟨some ⟨g, 0, none⟩, 2, by rw [List.length_set]; rfl, q5, ?_⟩
        exact H.own rgg (by simp; try omega) (by omega) (by simp; try omega)
      · have hqb : (q == 0) = false := by simp [hqz]
        have hv : apR r d b [x, y] (t : Int) since used true (-1) 1 time = ([x, y].set (t : Int).toNat (min (q + b) 100000000), 1 - (t : Int), time, 0, true, -1, 0) := by unfold apR; rw [if_pos H0.out, if_pos ⟨⟨hk1, hk2⟩, hk3, hk4⟩, if_pos ⟨rfl, by decide⟩, if_neg (by rw [HQ.out]; exact fun hh => hqz hh.2), if_pos rfl, HQ.out]
        obtain ⟨m, hm⟩ : ∃ m, min (q + b) 100000000 = m := ⟨_, rfl⟩
        rw [hv, hm] at h
        simp only [Prod.mk.injEq, Int.toNat_natCast] at h
        obtain ⟨rfl, rfl, rfl, rfl, rfl, rfl, -⟩ := h
        clear hv hfall
        have em : (if q + b < (100000000 : Int) then q + b else 100000000) = m := by rw [← hm]; simp only [Int.min_def]; split <;> split <;> omega
        clear hm
        obtain ⟨x0, x1', x2', x3, x4, x5⟩ := H.rx.c6
        have hfx := H.rx.frozen
        obtain ⟨e0, e1⟩ := H.re.c2
        have hgg := H.hg
        obtain ⟨p0, p1, p2, p3, p4, p5⟩ := (H.rs HGO.out).c6
        obtain ⟨k0, k1, k2⟩ := H.rr.c3
        obtain ⟨zz, hzz⟩ := pair_at H.rg ht2
        have hfg := H.rg.frozen
        go_upto_region 13 with (fail)
        refine wpS (fun W' => Ap w W' r d b 1 time _ go [.slice (some ⟨g, 0, none⟩) 2 2, .int .i64 t, .int .i64 time, .int .i64 used, .bool true, .int .i64 (-1)] g ([x, y].set t m) []) (H.put t m (by simpa using ht2)) ?_
        clear x0 x1' x2' x3 x4 x5 hfx hgg e0 e1 p0 p1 p2 p3 p4 p5 k0 k1 k2 H zz hzz hfg
        rintro W2 H
        obtain ⟨x0, x1', x2', x3, x4, x5⟩ := H.rx.c6
        have hfx := H.rx.frozen
        obtain ⟨e0, e1⟩ := H.re.c2
        have hgg := H.hg
        obtain ⟨p0, p1, p2, p3, p4, p5⟩ := (H.rs HGO.out).c6
        obtain ⟨k0, k1, k2⟩ := H.rr.c3
        go_upto_region 14 with (fail)
        refine wpS (fun W' => Ap w W' r d b 1 time _ go [.slice (some ⟨g, 0, none⟩) 2 2, .int .i64 (1 - (t : Int)), .int .i64 time, .int .i64 used, .bool true, .int .i64 (-1)] g ([x, y].set t m) []) (H.set 1 _) ?_
        clear x0 x1' x2' x3 x4 x5 hfx hgg e0 e1 p0 p1 p2 p3 p4 p5 k0 k1 k2 H
        rintro W2 H
        obtain ⟨x0, x1', x2', x3, x4, x5⟩ := H.rx.c6
        have hfx := H.rx.frozen
        obtain ⟨e0, e1⟩ := H.re.c2
        have hgg := H.hg
        obtain ⟨p0, p1, p2, p3, p4, p5⟩ := (H.rs HGO.out).c6
        obtain ⟨k0, k1, k2⟩ := H.rr.c3
        go_upto_region 20 with (fail)
        refine wpS (fun W' => Ap w W' r d b 1 time _ go [.slice (some ⟨g, 0, none⟩) 2 2, .int .i64 (1 - (t : Int)), .int .i64 time, .int .i64 0, .bool true, .int .i64 (-1)] g ([x, y].set t m) []) (H.set 3 _) ?_
        clear x0 x1' x2' x3 x4 x5 hfx hgg e0 e1 p0 p1 p2 p3 p4 p5 k0 k1 k2 H
        rintro W2 H
        have hl : 2 + ([] : List Value).length = 2 := rfl
        have hcm : (2 : Nat) ≤ maxLen := by decide
        obtain ⟨x0, x1', x2', x3, x4, x5⟩ := H.rx.c6
        have ro := H.ro
        obtain ⟨z0, z1', z2, z3, z4, z5⟩ := ro.c6
        have hfz := ro.frozen
        have qq := H.bel
        have rgg := H.rg
        have hgg := H.hg
        go_wp2_with fail
        refine bp_gen (fun W5 => RowB W5 (w.heap.size + 3) 30 [.slice (some ⟨g, 0, none⟩) 2 2, .int .i64 (1 - (t : Int)), .int .i64 time, .int .i64 0, .bool true, .int .i64 (-1)] ∧ Below w.heap.size w W5 ∧ RowB W5 g 2 (([x, y].set t m).flatMap enI ++ [])) ⟨((((((ro.set 0 _).set 1 _).set 2 _).set 3 _).set 4 _).set 5 _), by go_grown, ?_⟩ ?_
        · have hn : g ≠ w.heap.size + 3 := by omega
          exact (((((rgg.other (by exact hn) _).other (by exact hn) _).other (by exact hn) _).other (by exact hn) _).other (by exact hn) _).other (by exact hn) _
        clear z0 z1' z2 z3 z4 z5 hfz ro qq rgg x0 x1' x2' x3 x4 x5
        rintro W5 ⟨ro, q5, rgg⟩
        obtain ⟨z0, z1', z2, z3, z4, z5⟩ := ro.c6
        refine bodyPost_ret (v := .agg #[.slice (some ⟨g, 0, none⟩) 2 2, .int .i64 (1 - (t : Int)), .int .i64 time, .int .i64 0, .bool true, .int .i64 (-1)]) (by simp [results, Try.results60, go_sem, z0, z1', z2, z3, z4, z5]) rfl ?_
        refine ⟨some ⟨g, 0, none⟩, 2, by rw [List.length_set]; rfl, q5, ?_⟩
        exact H.own rgg (by simp; try omega) (by omega) (by simp; try omega)
    · generalize hqq : rest (sideOf [x, y] (t : Int)) d since used true time = q at *
      generalize hee : elap since used true time = el at *
      have HQ := Lib.hid hqq; clear hqq
      have HE := Lib.hid hee; clear hee
      have CR := Lib.hid CR
      have CE := Lib.hid CE
      obtain ⟨hq0, hq1⟩ := hq
      obtain ⟨he0, he1⟩ := he
      obtain ⟨e0, e1⟩ := H.re.c2
      obtain ⟨p0, p1, p2, p3, p4, p5⟩ := (H.rs HGO.out).c6
      obtain ⟨k0, k1, k2⟩ := H.rr.c3
      go_wp2_with fail
      clear e0 e1 p0 p1 p2 p3 p4 p5 k0 k1 k2
      refine (CR.out _ hBw (by exact hr)).mono ?_
      rintro e w2 ⟨rfl, hb2⟩
      have H := H.below hb2
      clear hb2 CR hr hBw
      by_cases hqz : q = 0
      · subst hqz
        have hv : apR r d b [x, y] (t : Int) since used true (-1) 2 time = ([x, y].set (t : Int).toNat 0, (t : Int), 0, 0, false, (t : Int), 0) := by unfold apR; rw [if_pos H0.out, if_pos ⟨⟨hk1, hk2⟩, hk3, hk4⟩, if_pos ⟨rfl, by decide⟩, if_pos ⟨rfl, HQ.out⟩]
        rw [hv] at h
        simp only [Prod.mk.injEq, Int.toNat_natCast] at h
        obtain ⟨rfl, rfl, rfl, rfl, rfl, rfl, -⟩ := h
        clear hv hfall
        obtain ⟨x0, x1', x2', x3, x4, x5⟩ := H.rx.c6
        have hfx := H.rx.frozen
        obtain ⟨e0, e1⟩ := H.re.c2
        have hgg := H.hg
        obtain ⟨p0, p1, p2, p3, p4, p5⟩ := (H.rs HGO.out).c6
        obtain ⟨k0, k1, k2⟩ := H.rr.c3
        obtain ⟨zz, hzz⟩ := pair_at H.rg ht2
        have hfg := H.rg.frozen
        go_upto_region 5 with (fail)
        refine wpS (fun W' => Ap w W' r d b 2 time _ go [.slice (some ⟨g, 0, none⟩) 2 2, .int .i64 t, .int .i64 time, .int .i64 used, .bool true, .int .i64 (-1)] g ([x, y].set t 0) []) (H.put t 0 (by simpa using ht2)) ?_
        clear x0 x1' x2' x3 x4 x5 hfx hgg e0 e1 p0 p1 p2 p3 p4 p5 k0 k1 k2 H zz hzz hfg
        rintro W2 H
        obtain ⟨x0, x1', x2', x3, x4, x5⟩ := H.rx.c6
        have hfx := H.rx.frozen
        obtain ⟨e0, e1⟩ := H.re.c2
        have hgg := H.hg
        obtain ⟨p0, p1, p2, p3, p4, p5⟩ := (H.rs HGO.out).c6
        obtain ⟨k0, k1, k2⟩ := H.rr.c3
        go_upto_region 6 with (fail)
        refine wpS (fun W' => Ap w W' r d b 2 time _ go [.slice (some ⟨g, 0, none⟩) 2 2, .int .i64 t, .int .i64 0, .int .i64 used, .bool true, .int .i64 (-1)] g ([x, y].set t 0) []) (H.set 2 _) ?_
        clear x0 x1' x2' x3 x4 x5 hfx hgg e0 e1 p0 p1 p2 p3 p4 p5 k0 k1 k2 H
        rintro W2 H
        obtain ⟨x0, x1', x2', x3, x4, x5⟩ := H.rx.c6
        have hfx := H.rx.frozen
        obtain ⟨e0, e1⟩ := H.re.c2
        have hgg := H.hg
        obtain ⟨p0, p1, p2, p3, p4, p5⟩ := (H.rs HGO.out).c6
        obtain ⟨k0, k1, k2⟩ := H.rr.c3
        go_upto_region 7 with (fail)
        refine wpS (fun W' => Ap w W' r d b 2 time _ go [.slice (some ⟨g, 0, none⟩) 2 2, .int .i64 t, .int .i64 0, .int .i64 0, .bool true, .int .i64 (-1)] g ([x, y].set t 0) []) (H.set 3 _) ?_
        clear x0 x1' x2' x3 x4 x5 hfx hgg e0 e1 p0 p1 p2 p3 p4 p5 k0 k1 k2 H
        rintro W2 H
        obtain ⟨x0, x1', x2', x3, x4, x5⟩ := H.rx.c6
        have hfx := H.rx.frozen
        obtain ⟨e0, e1⟩ := H.re.c2
        have hgg := H.hg
        obtain ⟨p0, p1, p2, p3, p4, p5⟩ := (H.rs HGO.out).c6
        obtain ⟨k0, k1, k2⟩ := H.rr.c3
        go_upto_region 8 with (fail)
        refine wpS (fun W' => Ap w W' r d b 2 time _ go [.slice (some ⟨g, 0, none⟩) 2 2, .int .i64 t, .int .i64 0, .int .i64 0, .bool false, .int .i64 (-1)] g ([x, y].set t 0) []) (H.set 4 _) ?_
        clear x0 x1' x2' x3 x4 x5 hfx hgg e0 e1 p0 p1 p2 p3 p4 p5 k0 k1 k2 H
        rintro W2 H
        obtain ⟨x0, x1', x2', x3, x4, x5⟩ := H.rx.c6
        have hfx := H.rx.frozen
        obtain ⟨e0, e1⟩ := H.re.c2
        have hgg := H.hg
        obtain ⟨p0, p1, p2, p3, p4, p5⟩ := (H.rs HGO.out).c6
        obtain ⟨k0, k1, k2⟩ := H.rr.c3
        go_upto_region 9 with (fail)
        refine wpS (fun W' => Ap w W' r d b 2 time _ go [.slice (some ⟨g, 0, none⟩) 2 2, .int .i64 t, .int .i64 0, .int .i64 0, .bool false, .int .i64 (t : Int)] g ([x, y].set t 0) []) (H.set 5 _) ?_
        clear x0 x1' x2' x3 x4 x5 hfx hgg e0 e1 p0 p1 p2 p3 p4 p5 k0 k1 k2 H
        rintro W2 H
        have hl : 2 + ([] : List Value).length = 2 := rfl
        have hcm : (2 : Nat) ≤ maxLen := by decide
        obtain ⟨x0, x1', x2', x3, x4, x5⟩ := H.rx.c6
        have ro := H.ro
        obtain ⟨z0, z1', z2, z3, z4, z5⟩ := ro.c6
        have hfz := ro.frozen
        have qq := H.bel
        have rgg := H.rg
        have hgg := H.hg
        go_wp2_with fail
        refine bp_gen (fun W5 => RowB W5 (w.heap.size + 3) 30 [.slice (some ⟨g, 0, none⟩) 2 2, .int .i64 t, .int .i64 0, .int .i64 0, .bool false, .int .i64 (t : Int)] ∧ Below w.heap.size w W5 ∧ RowB W5 g 2 (([x, y].set t 0).flatMap enI ++ [])) ⟨((((((ro.set 0 _).set 1 _).set 2 _).set 3 _).set 4 _).set 5 _), by go_grown, ?_⟩ ?_
        · have hn : g ≠ w.heap.size + 3 := by omega
          exact (((((rgg.other (by exact hn) _).other (by exact hn) _).other (by exact hn) _).other (by exact hn) _).other (by exact hn) _).other (by exact hn) _
        clear z0 z1' z2 z3 z4 z5 hfz ro qq rgg x0 x1' x2' x3 x4 x5
        rintro W5 ⟨ro, q5, rgg⟩
        obtain ⟨z0, z1', z2, z3, z4, z5⟩ := ro.c6
        refine bodyPost_ret (v := .agg #[.slice (some ⟨g, 0, none⟩) 2 2, .int .i64 t, .int .i64 0, .int .i64 0, .bool false, .int .i64 (t : Int)]) (by simp [results, Try.results60, go_sem, z0, z1', z2, z3, z4, z5]) rfl ?_
        refine ⟨some ⟨g, 0, none⟩, 2, by rw [List.length_set]; rfl, q5, ?_⟩
        exact H.own rgg (by simp; try omega) (by omega) (by simp; try omega)
      · have hqb : (q == 0) = false := by simp [hqz]
        have hv : apR r d b [x, y] (t : Int) since used true (-1) 2 time = ([x, y], (t : Int), time, min el 100000000, false, -1, 0) := by unfold apR; rw [if_pos H0.out, if_pos ⟨⟨hk1, hk2⟩, hk3, hk4⟩, if_pos ⟨rfl, by decide⟩, if_neg (by rw [HQ.out]; exact fun hh => hqz hh.2), if_neg (by decide), if_pos rfl, HE.out]
        obtain ⟨m, hm⟩ : ∃ m, min (el) 100000000 = m := ⟨_, rfl⟩
        rw [hv, hm] at h
        simp only [Prod.mk.injEq, Int.toNat_natCast] at h
        obtain ⟨rfl, rfl, rfl, rfl, rfl, rfl, -⟩ := h
        clear hv hfall
        have em : (if el < (100000000 : Int) then el else 100000000) = m := by rw [← hm]; simp only [Int.min_def]; split <;> split <;> omega
        clear hm
        obtain ⟨x0, x1', x2', x3, x4, x5⟩ := H.rx.c6
        obtain ⟨e0, e1⟩ := H.re.c2
        obtain ⟨p0, p1, p2, p3, p4, p5⟩ := (H.rs HGO.out).c6
        obtain ⟨k0, k1, k2⟩ := H.rr.c3
        go_wp2_with fail
        clear x0 x1' x2' x3 x4 x5 e0 e1 p0 p1 p2 p3 p4 p5 k0 k1 k2
        refine (CE.out _).mono ?_
        rintro e w3 ⟨rfl, hb3⟩
        have H := H.below hb3
        clear hb3 CE
        obtain ⟨x0, x1', x2', x3, x4, x5⟩ := H.rx.c6
        have hfx := H.rx.frozen
        obtain ⟨e0, e1⟩ := H.re.c2
        have hgg := H.hg
        obtain ⟨p0, p1, p2, p3, p4, p5⟩ := (H.rs HGO.out).c6
        obtain ⟨k0, k1, k2⟩ := H.rr.c3
        go_upto_region 17 with (fail)
        refine wpS (fun W' => Ap w W' r d b 2 time _ go [.slice (some ⟨g, 0, none⟩) 2 2, .int .i64 t, .int .i64 time, .int .i64 m, .bool true, .int .i64 (-1)] g ([x, y]) []) (H.set 3 _) ?_
        clear x0 x1' x2' x3 x4 x5 hfx hgg e0 e1 p0 p1 p2 p3 p4 p5 k0 k1 k2 H
        rintro W2 H
        obtain ⟨x0, x1', x2', x3, x4, x5⟩ := H.rx.c6
        have hfx := H.rx.frozen
        obtain ⟨e0, e1⟩ := H.re.c2
        have hgg := H.hg
        obtain ⟨p0, p1, p2, p3, p4, p5⟩ := (H.rs HGO.out).c6
        obtain ⟨k0, k1, k2⟩ := H.rr.c3
        go_upto_region 20 with (fail)
        refine wpS (fun W' => Ap w W' r d b 2 time _ go [.slice (some ⟨g, 0, none⟩) 2 2, .int .i64 t, .int .i64 time, .int .i64 m, .bool false, .int .i64 (-1)] g ([x, y]) []) (H.set 4 _) ?_
        clear x0 x1' x2' x3 x4 x5 hfx hgg e0 e1 p0 p1 p2 p3 p4 p5 k0 k1 k2 H
        rintro W2 H
        have hl : 2 + ([] : List Value).length = 2 := rfl
        have hcm : (2 : Nat) ≤ maxLen := by decide
        obtain ⟨x0, x1', x2', x3, x4, x5⟩ := H.rx.c6
        have ro := H.ro
        obtain ⟨z0, z1', z2, z3, z4, z5⟩ := ro.c6
        have hfz := ro.frozen
        have qq := H.bel
        have rgg := H.rg
        have hgg := H.hg
        go_wp2_with fail
        refine bp_gen (fun W5 => RowB W5 (w.heap.size + 3) 30 [.slice (some ⟨g, 0, none⟩) 2 2, .int .i64 t, .int .i64 time, .int .i64 m, .bool false, .int .i64 (-1)] ∧ Below w.heap.size w W5 ∧ RowB W5 g 2 ([x, y].flatMap enI ++ [])) ⟨((((((ro.set 0 _).set 1 _).set 2 _).set 3 _).set 4 _).set 5 _), by go_grown, ?_⟩ ?_
        · have hn : g ≠ w.heap.size + 3 := by omega
          exact (((((rgg.other (by exact hn) _).other (by exact hn) _).other (by exact hn) _).other (by exact hn) _).other (by exact hn) _).other (by exact hn) _
        clear z0 z1' z2 z3 z4 z5 hfz ro qq rgg x0 x1' x2' x3 x4 x5
        rintro W5 ⟨ro, q5, rgg⟩
        obtain ⟨z0, z1', z2, z3, z4, z5⟩ := ro.c6
        refine bodyPost_ret (v := .agg #[.slice (some ⟨g, 0, none⟩) 2 2, .int .i64 t, .int .i64 time, .int .i64 m, .bool false, .int .i64 (-1)]) (by simp [results, Try.results60, go_sem, z0, z1', z2, z3, z4, z5]) rfl ?_
        refine ⟨some ⟨g, 0, none⟩, 2, rfl, q5, ?_⟩
        exact H.own rgg (by simp; try omega) (by omega) (by simp; try omega)
    · generalize hqq : rest (sideOf [x, y] (t : Int)) d since used false time = q at *
      generalize hee : elap since used false time = el at *
      have HQ := Lib.hid hqq; clear hqq
      have HE := Lib.hid hee; clear hee
      have CR := Lib.hid CR
      have CE := Lib.hid CE
      obtain ⟨hq0, hq1⟩ := hq
      obtain ⟨he0, he1⟩ := he
      obtain ⟨e0, e1⟩ := H.re.c2
      obtain ⟨p0, p1, p2, p3, p4, p5⟩ := (H.rs HGO.out).c6
      obtain ⟨k0, k1, k2⟩ := H.rr.c3
      go_wp2_with fail
      clear e0 e1 p0 p1 p2 p3 p4 p5 k0 k1 k2
      refine (CR.out _ hBw (by exact hr)).mono ?_
      rintro e w2 ⟨rfl, hb2⟩
      have H := H.below hb2
      clear hb2 CR hr hBw
      have hv : apR r d b [x, y] (t : Int) since used false (-1) 3 time = ([x, y], (t : Int), time, used, true, -1, 0) := by unfold apR; rw [if_pos H0.out, if_pos ⟨⟨hk1, hk2⟩, hk3, hk4⟩, if_pos ⟨rfl, by decide⟩, if_neg (fun hh => by simp at hh), if_neg (by decide), if_neg (by decide)]
      rw [hv] at h
      simp only [Prod.mk.injEq, Int.toNat_natCast] at h
      obtain ⟨rfl, rfl, rfl, rfl, rfl, rfl, -⟩ := h
      clear hv hfall
      obtain ⟨x0, x1', x2', x3, x4, x5⟩ := H.rx.c6
      have hfx := H.rx.frozen
      obtain ⟨e0, e1⟩ := H.re.c2
      have hgg := H.hg
      obtain ⟨p0, p1, p2, p3, p4, p5⟩ := (H.rs HGO.out).c6
      obtain ⟨k0, k1, k2⟩ := H.rr.c3
      go_upto_region 20 with (fail)
      refine wpS (fun W' => Ap w W' r d b 3 time _ go [.slice (some ⟨g, 0, none⟩) 2 2, .int .i64 t, .int .i64 time, .int .i64 used, .bool true, .int .i64 (-1)] g ([x, y]) []) (H.set 4 _) ?_
      clear x0 x1' x2' x3 x4 x5 hfx hgg e0 e1 p0 p1 p2 p3 p4 p5 k0 k1 k2 H
      rintro W2 H
      have hl : 2 + ([] : List Value).length = 2 := rfl
      have hcm : (2 : Nat) ≤ maxLen := by decide
      obtain ⟨x0, x1', x2', x3, x4, x5⟩ := H.rx.c6
      have ro := H.ro
      obtain ⟨z0, z1', z2, z3, z4, z5⟩ := ro.c6
      have hfz := ro.frozen
      have qq := H.bel
      have rgg := H.rg
      have hgg := H.hg
      go_wp2_with fail
      refine bp_gen (fun W5 => RowB W5 (w.heap.size + 3) 30 [.slice (some ⟨g, 0, none⟩) 2 2, .int .i64 t, .int .i64 time, .int .i64 used, .bool true, .int .i64 (-1)] ∧ Below w.heap.size w W5 ∧ RowB W5 g 2 ([x, y].flatMap enI ++ [])) ⟨((((((ro.set 0 _).set 1 _).set 2 _).set 3 _).set 4 _).set 5 _), by go_grown, ?_⟩ ?_
      · have hn : g ≠ w.heap.size + 3 := by omega
        exact (((((rgg.other (by exact hn) _).other (by exact hn) _).other (by exact hn) _).other (by exact hn) _).other (by exact hn) _).other (by exact hn) _
      clear z0 z1' z2 z3 z4 z5 hfz ro qq rgg x0 x1' x2' x3 x4 x5
      rintro W5 ⟨ro, q5, rgg⟩
      obtain ⟨z0, z1', z2, z3, z4, z5⟩ := ro.c6
      refine bodyPost_ret (v := .agg #[.slice (some ⟨g, 0, none⟩) 2 2, .int .i64 t, .int .i64 time, .int .i64 used, .bool true, .int .i64 (-1)]) (by simp [results, Try.results60, go_sem, z0, z1', z2, z3, z4, z5]) rfl ?_
      refine ⟨some ⟨g, 0, none⟩, 2, rfl, q5, ?_⟩
      exact H.own rgg (by simp; try omega) (by omega) (by simp; try omega)

set_option maxHeartbeats 8000000 in
set_option maxRecDepth 100000 in
theorem ap_spec (r d b : Int) (A : Option Addr) (cp B : Nat) (xs : List Int) (turn since used : Int) (run : Bool) (fallen kind time : Int) (w : World) (gs : List Int) (tu si us : Int) (ru : Bool) (fa co : Int) (hB : B ≤ w.heap.size) (hr : RdS w B 1 enI A xs) (h : apR r d b xs turn since used run fallen kind time = (gs, tu, si, us, ru, fa, co)) :
    Calls Try.prog 34 #[.agg #[.int .i64 r, .int .i64 d, .int .i64 b], .agg #[.slice A xs.length cp, .int .i64 turn, .int .i64 since, .int .i64 used, .bool run, .int .i64 fallen], .agg #[.int .i64 kind, .int .i64 time]] w fun e w' => ∃ A cp, e = .returned (.tuple #[.agg #[.slice A gs.length cp, .int .i64 tu, .int .i64 si, .int .i64 us, .bool ru, .int .i64 fa], .int .i64 co]) ∧ Below w.heap.size w w' ∧ OwnS w' w.heap.size w'.heap.size 2 1 enI (.slice A gs.length cp) gs := by
  by_cases h0 : okCS r d b xs turn since used run fallen = true
  · have H0 := Lib.hid h0
    obtain ⟨x, y, hxy, ⟨r1, r2⟩, ⟨d1, d2⟩, ⟨b1, b2⟩, ⟨x1, x2⟩, ⟨y1, y2⟩, ht, ⟨s1, s2⟩, ⟨u1, u2⟩, hfall⟩ := okCS_elim h0
    subst hxy
    go_enter Try.func34, Try.ntmps34
    go_wp2_with fail
    refine (isCS_spec r d b A cp B [x, y] turn since used run fallen _ (by simp; omega) (hr.below (by go_grown) hB)).mono ?_
    rw [h0]
    clear h0
    rintro e w1 ⟨rfl, hb1⟩
    have rr := ((((RowB.new _ _ _).alloc _).alloc _).alloc _).below hb1 (by simp; try omega)
    have rs := (((RowB.new _ _ _).alloc _).alloc _).below hb1 (by simp; try omega)
    have re := ((RowB.new _ _ _).alloc _).below hb1 (by simp; try omega)
    have ro := (RowB.new _ _ _).below hb1 (by simp; try omega)
    have q1 : Below w.heap.size w w1 := Below.then_ (by go_grown) hb1 (by simp; omega)
    simp only [World.size_alloc] at rs re ro
    have hr := hr.below q1 hB
    have z1 := q1.size
    clear hb1
    obtain ⟨k0, k1, k2⟩ := rr.c3
    obtain ⟨p0, p1, p2, p3, p4, p5⟩ := rs.c6
    obtain ⟨e0, e1⟩ := re.c2
    have l1 := ro.lt
    by_cases hk : (1 ≤ kind ∧ kind ≤ 3) ∧ (since ≤ time ∧ time ≤ 100000000)
    · by_cases hf : fallen = -1 ∧ run = !decide (kind = 3)
      · obtain rfl : co = 0 := by
          unfold apR at h
          rw [if_pos H0.out, if_pos hk, if_pos hf] at h
          split at h
          · simp only [Prod.mk.injEq] at h; exact h.2.2.2.2.2.2.symm
          · split at h
            · simp only [Prod.mk.injEq] at h; exact h.2.2.2.2.2.2.symm
            · split at h <;> (simp only [Prod.mk.injEq] at h; exact h.2.2.2.2.2.2.symm)
        have CL := Lib.hid (fun w0 h1 h2 => la_spec r d b A cp B [x, y] turn since used run fallen kind time w0 gs tu si us ru fa h1 h2 H0.out hk hf h)
        obtain ⟨⟨hk1, hk2⟩, hk3, hk4⟩ := hk
        obtain ⟨rfl, hrun⟩ := hf
        clear h
        have e7 : (run == (kind == 3)) = false := e7yes hrun
        clear hrun
        go_wp2_with (first | (go_at_call 60; refine (CL.out _ (by first | omega | go_size) (by exact hr)).mono ?_; rintro e w2 ⟨Av, cv, rfl, hb2, o2⟩; have ro2 := ro.below hb2 l1; obtain ⟨z0, z1', z2', z3, z4, z5⟩ := ro2.c6; have hfz := ro2.frozen; have q2 := q1.trans (hb2.mono q1.size); have z2 := hb2.size; clear hb2) | go_in)
        refine bp_gen (fun W5 => RowB W5 (w.heap.size + 3) 30 [.slice Av gs.length cv, .int .i64 tu, .int .i64 si, .int .i64 us, .bool ru, .int .i64 fa] ∧ Below w.heap.size w W5 ∧ OwnS W5 w.heap.size W5.heap.size 2 1 enI (.slice Av gs.length cv) gs) ⟨((((((ro2.set 0 _).set 1 _).set 2 _).set 3 _).set 4 _).set 5 _), by go_grown, ?_⟩ ?_
        · simp only [World.size_setCell]
          refine OwnS.less (lo := w1.heap.size) ?_ (by omega)
          repeat (refine OwnS.setCell ?_ (by simp; try omega) _)
          exact o2
        clear z0 z1' z2' z3 z4 z5 hfz ro ro2 o2 q2 k0 k1 k2 p0 p1 p2 p3 p4 p5 e0 e1
        rintro W5 ⟨ro, q5, o5⟩
        obtain ⟨z0, z1', z2', z3, z4, z5⟩ := ro.c6
        refine bodyPost_ret (v := .tuple #[.agg #[.slice Av gs.length cv, .int .i64 tu, .int .i64 si, .int .i64 us, .bool ru, .int .i64 fa], .int .i64 0]) (by simp [results, Try.results34, go_sem, z0, z1', z2', z3, z4, z5]) rfl ?_
        exact ⟨_, _, rfl, q5, o5⟩
      · skip
        have hv : apR r d b [x, y] turn since used run fallen kind time = ([], 0, 0, 0, false, 0, 5) := by unfold apR; rw [if_pos H0.out, if_pos hk, if_neg hf]
        rw [hv] at h
        simp only [Prod.mk.injEq] at h
        obtain ⟨rfl, rfl, rfl, rfl, rfl, rfl, rfl⟩ := h
        clear hv
        obtain ⟨⟨hk1, hk2⟩, hk3, hk4⟩ := hk
        cases e5 : (fallen != -1)
        case true =>
          clear hf
          obtain ⟨z0, z1, z2, z3, z4, z5⟩ := ro.c6
          have hfz := ro.frozen
          go_wp2
          all_goals
            refine bp_gen (fun W5 => RowB W5 (w.heap.size + 3) 30 [.slice none 0 0, .int .i64 0, .int .i64 0, .int .i64 0, .bool false, .int .i64 0] ∧ Below w.heap.size w W5) ⟨((((((ro.set 0 _).set 1 _).set 2 _).set 3 _).set 4 _).set 5 _), by go_grown⟩ ?_
            clear z0 z1 z2 z3 z4 z5 hfz ro
            rintro W5 ⟨ro, q5⟩
            obtain ⟨z0, z1, z2, z3, z4, z5⟩ := ro.c6
            refine bodyPost_ret (v := .tuple #[.agg #[.slice none 0 0, .int .i64 0, .int .i64 0, .int .i64 0, .bool false, .int .i64 0], .int .i64 5]) (by simp [results, Try.results34, go_sem, z0, z1, z2, z3, z4, z5]) rfl ?_
            exact ⟨none, 0, rfl, q5, OwnS.nil_ _ _ _ _ _ _⟩
        case false =>
          obtain rfl : fallen = -1 := by simpa using e5
          have e7 : (run == (kind == 3)) = true := e7no hf
          clear hf e5
          obtain ⟨z0, z1, z2, z3, z4, z5⟩ := ro.c6
          have hfz := ro.frozen
          go_wp2
          all_goals
            refine bp_gen (fun W5 => RowB W5 (w.heap.size + 3) 30 [.slice none 0 0, .int .i64 0, .int .i64 0, .int .i64 0, .bool false, .int .i64 0] ∧ Below w.heap.size w W5) ⟨((((((ro.set 0 _).set 1 _).set 2 _).set 3 _).set 4 _).set 5 _), by go_grown⟩ ?_
            clear z0 z1 z2 z3 z4 z5 hfz ro
            rintro W5 ⟨ro, q5⟩
            obtain ⟨z0, z1, z2, z3, z4, z5⟩ := ro.c6
            refine bodyPost_ret (v := .tuple #[.agg #[.slice none 0 0, .int .i64 0, .int .i64 0, .int .i64 0, .bool false, .int .i64 0], .int .i64 5]) (by simp [results, Try.results34, go_sem, z0, z1, z2, z3, z4, z5]) rfl ?_
            exact ⟨none, 0, rfl, q5, OwnS.nil_ _ _ _ _ _ _⟩
    · skip
      have hv : apR r d b [x, y] turn since used run fallen kind time = ([], 0, 0, 0, false, 0, 2) := by unfold apR; rw [if_pos H0.out, if_neg hk]
      rw [hv] at h
      simp only [Prod.mk.injEq] at h
      obtain ⟨rfl, rfl, rfl, rfl, rfl, rfl, rfl⟩ := h
      clear hv
      by_cases u1 : 1 ≤ kind <;> by_cases u2 : kind ≤ 3 <;> by_cases u3 : since ≤ time <;> by_cases u4 : time ≤ 100000000
      all_goals try (exfalso; omega)
      all_goals clear hk
      all_goals
        try have hd_u1 : decide (1 ≤ kind) = false := decide_eq_false u1
        try have hd_u2 : decide (kind ≤ 3) = false := decide_eq_false u2
        try have hd_u3 : decide (since ≤ time) = false := decide_eq_false u3
        try have hd_u4 : decide (time ≤ 100000000) = false := decide_eq_false u4
        obtain ⟨z0, z1, z2, z3, z4, z5⟩ := ro.c6
        have hfz := ro.frozen
        go_wp2
        all_goals
          refine bp_gen (fun W5 => RowB W5 (w.heap.size + 3) 30 [.slice none 0 0, .int .i64 0, .int .i64 0, .int .i64 0, .bool false, .int .i64 0] ∧ Below w.heap.size w W5) ⟨((((((ro.set 0 _).set 1 _).set 2 _).set 3 _).set 4 _).set 5 _), by go_grown⟩ ?_
          clear z0 z1 z2 z3 z4 z5 hfz ro
          rintro W5 ⟨ro, q5⟩
          obtain ⟨z0, z1, z2, z3, z4, z5⟩ := ro.c6
          refine bodyPost_ret (v := .tuple #[.agg #[.slice none 0 0, .int .i64 0, .int .i64 0, .int .i64 0, .bool false, .int .i64 0], .int .i64 2]) (by simp [results, Try.results34, go_sem, z0, z1, z2, z3, z4, z5]) rfl ?_
          exact ⟨none, 0, rfl, q5, OwnS.nil_ _ _ _ _ _ _⟩
  · skip
    have hv : apR r d b xs turn since used run fallen kind time = ([], 0, 0, 0, false, 0, 1) := by unfold apR; rw [if_neg h0]
    rw [hv] at h
    simp only [Prod.mk.injEq] at h
    obtain ⟨rfl, rfl, rfl, rfl, rfl, rfl, rfl⟩ := h
    clear hv
    have h0 : okCS r d b xs turn since used run fallen = false := by simpa using h0
    go_enter Try.func34, Try.ntmps34
    go_wp2_with fail
    refine (isCS_spec r d b A cp B xs turn since used run fallen _ (by simp; omega) (hr.below (by go_grown) hB)).mono ?_
    rw [h0]
    clear h0
    rintro e w1 ⟨rfl, hb1⟩
    have rr := ((((RowB.new _ _ _).alloc _).alloc _).alloc _).below hb1 (by simp; try omega)
    have rs := (((RowB.new _ _ _).alloc _).alloc _).below hb1 (by simp; try omega)
    have re := ((RowB.new _ _ _).alloc _).below hb1 (by simp; try omega)
    have ro := (RowB.new _ _ _).below hb1 (by simp; try omega)
    have q1 : Below w.heap.size w w1 := Below.then_ (by go_grown) hb1 (by simp; omega)
    simp only [World.size_alloc] at rs re ro
    have hr := hr.below q1 hB
    have z1 := q1.size
    clear hb1
    obtain ⟨k0, k1, k2⟩ := rr.c3
    obtain ⟨p0, p1, p2, p3, p4, p5⟩ := rs.c6
    obtain ⟨e0, e1⟩ := re.c2
    have l1 := ro.lt
    obtain ⟨z0, z1, z2, z3, z4, z5⟩ := ro.c6
    have hfz := ro.frozen
    go_wp2
    all_goals
      refine bp_gen (fun W5 => RowB W5 (w.heap.size + 3) 30 [.slice none 0 0, .int .i64 0, .int .i64 0, .int .i64 0, .bool false, .int .i64 0] ∧ Below w.heap.size w W5) ⟨((((((ro.set 0 _).set 1 _).set 2 _).set 3 _).set 4 _).set 5 _), by go_grown⟩ ?_
      clear z0 z1 z2 z3 z4 z5 hfz ro
      rintro W5 ⟨ro, q5⟩
      obtain ⟨z0, z1, z2, z3, z4, z5⟩ := ro.c6
      refine bodyPost_ret (v := .tuple #[.agg #[.slice none 0 0, .int .i64 0, .int .i64 0, .int .i64 0, .bool false, .int .i64 0], .int .i64 1]) (by simp [results, Try.results34, go_sem, z0, z1, z2, z3, z4, z5]) rfl ?_
      exact ⟨none, 0, rfl, q5, OwnS.nil_ _ _ _ _ _ _⟩

end Go.Proofs.Ytdjopnhbcchedaa.ClockA
