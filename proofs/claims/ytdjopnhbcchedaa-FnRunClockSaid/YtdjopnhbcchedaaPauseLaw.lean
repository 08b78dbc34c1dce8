/-
  The law on a pause: it costs no time, and gives time back only where the elapsed time would be greater than MaxClock. Conditions: none beyond the given row's.
-/
import Derived.Test.YtdjopnhbcchedaaDrawA
import Derived.Test.YtdjopnhbcchedaaFlagLaw
set_option linter.unusedVariables false
namespace Go.Proofs.Ytdjopnhbcchedaa.PauseLaw
open Go.ChangeShapes Go.WideShapes Go.ChangeAt Go.RowKit Base Base2 Ints Own Draw RegInv Clock ClockSt ClockR ClockT ClockA ClockRun DrawA

theorem okCS_mk {r d b x y tu si us : Int} {ru : Bool} {fa : Int} (hr : 1 ≤ r ∧ r ≤ 100000000) (hd : 0 ≤ d ∧ d ≤ 100000000) (hb : 0 ≤ b ∧ b ≤ 100000000) (hx : 0 ≤ x ∧ x ≤ 100000000) (hy : 0 ≤ y ∧ y ≤ 100000000) (ht : tu = 0 ∨ tu = 1) (hs : 0 ≤ si ∧ si ≤ 100000000) (hu : 0 ≤ us ∧ us ≤ 100000000) (hf : fa = -1 ∨ fa = tu ∧ ru = false) :
    okCS r d b [x, y] tu si us ru fa = true := by
  unfold okCS okCR
  rw [Bool.and_eq_true, decide_eq_true_eq]
  refine ⟨by omega, ?_⟩
  simp only [decide_eq_true_eq]
  exact ⟨hx.1, hx.2, hy.1, hy.2, by omega, by omega, hs.1, hs.2, hu.1, hu.2, hf⟩

theorem pause_cases (r d b : Int) (xs : List Int) (tu si us : Int) (ru : Bool) (fa tm : Int) :
    (∃ co, co ≠ 0 ∧ apR r d b xs tu si us ru fa 2 tm = ([], 0, 0, 0, false, 0, co)) ∨
    (∃ gs' tu' si' us' ru' fa', apR r d b xs tu si us ru fa 2 tm = (gs', tu', si', us', ru', fa', 0) ∧ fa' ≠ -1 ∧ okCS r d b gs' tu' si' us' ru' fa' = true) ∨
    (∃ u, apR r d b xs tu si us ru fa 2 tm = (xs, tu, tm, u, false, -1, 0) ∧ (0 ≤ tm ∧ tm ≤ 100000000) ∧ (0 ≤ us ∧ us ≤ 100000000) ∧ (0 ≤ si ∧ si ≤ tm) ∧ tlC r d b xs tu si us ru fa tu tm = 0 ∧
      ∀ later, tm ≤ later → later ≤ 100000000 → apR r d b xs tu tm u false (-1) 3 later = (xs, tu, later, u, true, -1, 0) ∧ tlC r d b xs tu later u true (-1) tu later = 0 ∧
        (tlV r d b xs tu si us ru fa tu tm = tlV r d b xs tu later u true (-1) tu later ∨ tlV r d b xs tu si us ru fa tu tm < tlV r d b xs tu later u true (-1) tu later ∧ 100000000 < us + tm - si)) := by
  by_cases h0 : okCS r d b xs tu si us ru fa = true
  case neg => exact .inl ⟨1, by decide, by unfold apR; rw [if_neg h0]⟩
  by_cases h1 : si ≤ tm ∧ tm ≤ 100000000
  case neg => exact .inl ⟨2, by decide, by unfold apR; rw [if_pos h0, if_neg (fun h => h1 h.2)]⟩
  by_cases h2 : fa = -1 ∧ ru = !decide ((2 : Int) = 3)
  case neg => exact .inl ⟨5, by decide, by unfold apR; rw [if_pos h0, if_pos ⟨by decide, h1⟩, if_neg h2]⟩
  obtain ⟨rfl, hru⟩ := h2
  have hru : ru = true := by simpa using hru
  subst hru
  obtain ⟨x, y, rfl, hr, hd, hb, hx, hy, ht, hs, hu, hf⟩ := okCS_elim h0
  by_cases h3 : rest (sideOf [x, y] tu) d si us true tm = 0
  · refine .inr (.inl ⟨([x, y] : List Int).set tu.toNat 0, tu, 0, 0, false, tu, ?_, by omega, ?_⟩)
    · unfold apR
      rw [if_pos h0, if_pos ⟨by decide, h1⟩, if_pos ⟨rfl, by decide⟩, if_pos ⟨rfl, h3⟩]
    · rcases ht with rfl | rfl
      · exact okCS_mk hr hd hb (by omega) hy (.inl rfl) (by omega) (by omega) (.inr ⟨rfl, rfl⟩)
      · exact okCS_mk hr hd hb hx (by omega) (.inr rfl) (by omega) (by omega) (.inr ⟨rfl, rfl⟩)
  · refine .inr (.inr ⟨min (elap si us true tm) 100000000, ?_, by omega, hu, by omega, ?_, ?_⟩)
    · unfold apR
      rw [if_pos h0, if_pos ⟨by decide, h1⟩, if_pos ⟨rfl, by decide⟩, if_neg (fun h => h3 h.2), if_neg (by decide), if_pos rfl]
    · unfold tlC
      rw [if_pos h0, if_pos ⟨ht, h1⟩]
    · intro later l1 l2
      have he : elap si us true tm = us + tm - si := by unfold elap; rw [if_pos rfl]
      have hu2 : 0 ≤ min (elap si us true tm) 100000000 ∧ min (elap si us true tm) 100000000 ≤ 100000000 := by rw [he]; omega
      have ha : okCS r d b [x, y] tu tm (min (elap si us true tm) 100000000) false (-1) = true := okCS_mk hr hd hb hx hy ht (by omega) hu2 (.inl rfl)
      have hb' : okCS r d b [x, y] tu later (min (elap si us true tm) 100000000) true (-1) = true := okCS_mk hr hd hb hx hy ht (by omega) hu2 (.inl rfl)
      refine ⟨?_, ?_, ?_⟩
      · unfold apR
        rw [if_pos ha, if_pos ⟨by decide, l1, l2⟩, if_pos ⟨rfl, by decide⟩, if_neg (fun h => by cases h.1), if_neg (by decide), if_neg (by decide)]
      · unfold tlC
        rw [if_pos hb', if_pos ⟨ht, by omega, l2⟩]
      · have hX : tlV r d b [x, y] tu si us true (-1) tu tm = rest (sideOf [x, y] tu) d si us true tm := by
          unfold tlV
          rw [if_pos ⟨h0, ht, h1⟩, if_pos rfl]
        have hY : tlV r d b [x, y] tu later (min (elap si us true tm) 100000000) true (-1) tu later = rest (sideOf [x, y] tu) d later (min (elap si us true tm) 100000000) true later := by
          unfold tlV
          rw [if_pos ⟨hb', ht, Int.le_refl _, l2⟩, if_pos rfl]
        rw [hX, hY]
        clear hX hY
        have e2 : elap later (min (elap si us true tm) 100000000) true later = min (elap si us true tm) 100000000 := by
          rw [he]
          unfold elap
          rw [if_pos rfl]
          omega
        unfold rest
        rw [e2, he]
        generalize sideOf [x, y] tu = l
        omega

/-- Between the law's calls: the boxes of rules, state, event; the state's own slice. -/
structure Px (w0 : World) (p q t : Nat) (r d b : Int) (Al : Option Addr) (c : Nat) (gs : List Int) (tu si us : Int) (ru : Bool) (fa kd tm : Int) (lo hi : Nat) (w : World) : Prop where
  q4 : RowB w p 25 [.int .i64 r, .int .i64 d, .int .i64 b]
  q5 : RowB w q 30 [.slice Al gs.length c, .int .i64 tu, .int .i64 si, .int .i64 us, .bool ru, .int .i64 fa]
  q6 : RowB w t 54 [.int .i64 kd, .int .i64 tm]
  o : OwnS w lo hi 2 1 enI (.slice Al gs.length c) gs
  hh : hi ≤ w.heap.size
  ht : p ≠ t ∧ q ≠ t ∧ hi ≤ t ∧ w0.heap.size ≤ t
  bel : Below w0.heap.size w0 w
section
variable {w0 w w' : World} {p q t : Nat} {r d b : Int} {Al : Option Addr} {c : Nat} {gs : List Int} {tu si us : Int} {ru : Bool} {fa kd tm : Int} {lo hi : Nat}
theorem Px.below (h : Px w0 p q t r d b Al c gs tu si us ru fa kd tm lo hi w) (hb : Below w.heap.size w w') : Px w0 p q t r d b Al c gs tu si us ru fa kd tm lo hi w' :=
  ⟨h.q4.below hb h.q4.lt, h.q5.below hb h.q5.lt, h.q6.below hb h.q6.lt, h.o.below hb h.hh, Nat.le_trans h.hh hb.size, h.ht, h.bel.trans (hb.mono h.bel.size)⟩
theorem Px.alloc (h : Px w0 p q t r d b Al c gs tu si us ru fa kd tm lo hi w) (o : Obj) : Px w0 p q t r d b Al c gs tu si us ru fa kd tm lo hi (w.alloc o) :=
  h.below ((Below.refl _ _).alloc (Nat.le_refl _) _)
theorem Px.kind (h : Px w0 p q t r d b Al c gs tu si us ru fa kd tm lo hi w) (k : Int) : Px w0 p q t r d b Al c gs tu si us ru fa k tm lo hi (w.setCell ⟨t, 0, none⟩ (.int .i64 k)) := by
  have hp := h.ht
  exact ⟨h.q4.other (by show p ≠ t; omega) _, h.q5.other (by show q ≠ t; omega) _, h.q6.set 0 _, h.o.grown (grownBy_setCell w t 0 _) (fun k hk => by simp at hk; omega), by rw [World.size_setCell]; exact h.hh, hp, h.bel.setCell (by show w0.heap.size ≤ t; omega) _⟩
end

set_option maxHeartbeats 4000000 in
set_option maxRecDepth 100000 in
theorem pauseL (Ac : Option Addr) (cpc : Nat) (cs : List Int) (W : World) (hr : RdS W W.heap.size 1 enB Ac cs) (hw : ∀ x ∈ cs, (Lit.int .u8 x).wf = true) :
    Calls Try.prog 11 #[.slice Ac cs.length cpc] W fun e w' => e = .returned (.bool true) ∧ Below W.heap.size W w' := by
  cases hbig : decide ((4096 : Int) < (cs.length : Int))
  case true =>
    have HB := Lib.hid hbig; clear hbig
    go_enter Try.func11, Try.ntmps11
    go_wp2_with fail
    refine (FlagLaw.bigF _ cpc Ac true HB.out _ hr.1).mono ?_
    rintro e w1 ⟨rfl, rfl⟩
    go_wp2_with fail
    go_ret
    exact ⟨rfl, Below.refl _ _⟩
  have HB := Lib.hid hbig; clear hbig
  go_enter Try.func11, Try.ntmps11
  go_wp2_with fail
  refine (FlagLaw.bigF _ cpc Ac false HB.out _ hr.1).mono ?_
  rintro e w1 ⟨rfl, rfl⟩
  go_wp2_with fail
  refine (pause_ hr hw).mono ?_
  rintro e w2 ⟨r, d, b, Al, c, gs, tu, si, us, ru, fa, kd, tm, rfl, ho, hb2⟩
  clear hr hw
  have hz2 := hb2.size
  go_upto_region 4 with (fail)
  refine wp_gen (fun W' => Px W w2.heap.size (w2.heap.size + 1) (w2.heap.size + 2) r d b Al c gs tu si us ru fa kd tm W.heap.size w2.heap.size W') ⟨((RowB.new _ _ _).alloc _).alloc _, (RowB.new' _ _ _ (by simp)).alloc _, RowB.new' _ _ _ (by simp), ((ho.alloc _).alloc _).alloc _, by simp only [World.size_alloc]; omega, by omega, ((hb2.alloc hz2 _).alloc (by simp only [World.size_alloc]; omega) _).alloc (by simp only [World.size_alloc]; omega) _⟩ ?_
  clear ho hb2 hz2
  generalize w2.heap.size = p
  obtain ⟨q, hq⟩ : ∃ q, p + 1 = q := ⟨_, rfl⟩
  obtain ⟨t, ht⟩ : ∃ t, p + 1 + 1 = t := ⟨_, rfl⟩
  have ht2 : p + 2 = t := ht
  rw [ht2, hq]
  try rw [show q + 1 = t from by omega]
  clear hq ht ht2
  rintro w3 K
  obtain ⟨s0, s1⟩ := K.q6.c2
  have hf := K.q6.frozen
  have hl := K.q6.lt
  go_upto_region 5 with (fail)
  refine wp_gen (fun W' => Px W p q t r d b Al c gs tu si us ru fa 2 tm W.heap.size p W') (K.kind 2) ?_
  clear K s0 s1 hf hl
  rintro w4 K
  obtain ⟨⟨gs', tu', si', us', ru', fa', co⟩, hP⟩ : ∃ z, apR r d b gs tu si us ru fa 2 tm = z := ⟨_, rfl⟩
  obtain ⟨p0, p1, p2⟩ := K.q4.c3
  obtain ⟨q0, q1, q2, q3, q4, q5⟩ := K.q5.c6
  obtain ⟨s0, s1⟩ := K.q6.c2
  have lp := K.q4.lt
  have lq := K.q5.lt
  have lt := K.q6.lt
  go_wp2_with fail
  refine (ap_impl r d b Al c p gs tu si us ru fa 2 tm _ gs' tu' si' us' ru' fa' co K.hh (K.o.rd enI_len) hP).mono ?_
  rintro e w5 ⟨Aa, ca, rfl, hb, oa⟩
  have K := K.below hb
  clear p0 p1 p2 q0 q1 q2 q3 q4 q5 s0 s1 lp lq lt hb
  go_upto_region 6 with (fail)
  refine wp_gen (fun W' => Px W p q t r d b Al c gs tu si us ru fa 2 tm W.heap.size p W' ∧ RowB W' w5.heap.size 30 [.slice Aa gs'.length ca, .int .i64 tu', .int .i64 si', .int .i64 us', .bool ru', .int .i64 fa'] ∧ OwnS W' w4.heap.size w5.heap.size 2 1 enI (.slice Aa gs'.length ca) gs') ⟨K.alloc _, RowB.new _ _ _, oa.alloc _⟩ ?_
  clear K oa
  generalize w5.heap.size = pa
  generalize w4.heap.size = la
  rintro w6 ⟨K, Ra, oa⟩
  obtain ⟨p0, p1, p2⟩ := K.q4.c3
  obtain ⟨q0, q1, q2, q3, q4, q5⟩ := K.q5.c6
  obtain ⟨s0, s1⟩ := K.q6.c2
  have lp := K.q4.lt
  have lq := K.q5.lt
  have lt := K.q6.lt
  go_wp2_with fail
  refine (ap_spec r d b Al c p gs tu si us ru fa 2 tm _ gs' tu' si' us' ru' fa' co K.hh (K.o.rd enI_len) hP).mono ?_
  rintro e w7 ⟨As, cs', rfl, hb, os⟩
  have hal := Ra.lt
  have K := K.below hb
  have oa := oa.below hb (by omega)
  have Ra := Ra.below hb (by omega)
  clear p0 p1 p2 q0 q1 q2 q3 q4 q5 s0 s1 lp lq lt hb os hal
  have hal := Ra.lt
  obtain ⟨a0, a1, a2, a3, a4, a5⟩ := Ra.c6
  obtain ⟨p0, p1, p2⟩ := K.q4.c3
  obtain ⟨q0, q1, q2, q3, q4, q5⟩ := K.q5.c6
  obtain ⟨s0, s1⟩ := K.q6.c2
  have lp := K.q4.lt
  have lq := K.q5.lt
  have lt := K.q6.lt
  rcases pause_cases r d b gs tu si us ru fa tm with ⟨co', hco, hQ⟩ | ⟨gs2, tu2, si2, us2, ru2, fa2, hQ, hfa, hok⟩ | ⟨u, hQ, htm, hus, hsi, hx0, hlat⟩
  · rw [hQ] at hP
    simp only [Prod.mk.injEq] at hP
    obtain ⟨rfl, rfl, rfl, rfl, rfl, rfl, rfl⟩ := hP
    have hc2 : (co' != 0) = true := by simp [hco]
    have hcc : (co' != co') = false := by simp
    clear hco hQ
    go_wp2_with fail
    go_ret
    exact ⟨rfl, by have h := K.alloc (.cells #[.slice none 0 0, .int .i64 0, .int .i64 0, .int .i64 0, .bool false, .int .i64 0] 30 ); exact (K.alloc _).bel⟩
  · rw [hQ] at hP
    simp only [Prod.mk.injEq] at hP
    obtain ⟨rfl, rfl, rfl, rfl, rfl, rfl, rfl⟩ := hP
    have hf2 : (fa2 != -1) = true := by simp [hfa]
    clear hfa hQ
    have CS := Lib.hid (fun w' (hb : Below w7.heap.size w7 w') => isCS_impl r d b Aa ca pa gs2 tu2 si2 us2 ru2 fa2 w' (by have := hb.size; omega) ((oa.below hb (by omega)).rd enI_len))
    rw [hok] at CS
    go_wp2_with fail
    refine (CS.out _ (by go_grown)).mono ?_
    rintro e w8 ⟨rfl, hb⟩
    have K := (K.alloc _).below hb
    go_wp2_with fail
    go_ret
    exact ⟨rfl, K.bel⟩
  · rw [hQ] at hP
    simp only [Prod.mk.injEq] at hP
    obtain ⟨rfl, rfl, rfl, rfl, rfl, rfl, rfl⟩ := hP
    clear hQ
    obtain ⟨later, hlt⟩ : ∃ later, (if (100000000 : Int) < tm + 1000 then 100000000 else tm + 1000) = later := ⟨_, rfl⟩
    have l1 : tm ≤ later := by rw [← hlt]; split <;> omega
    have l2 : later ≤ 100000000 := by rw [← hlt]; split <;> omega
    obtain ⟨hA3, hC3, hV3⟩ := hlat later l1 l2
    have HV3 := Lib.hid hV3
    have HX0 := Lib.hid hx0
    have HC3 := Lib.hid hC3
    have HA3 := Lib.hid hA3
    have HT := Lib.hid htm
    have HUS := Lib.hid hus
    have HSI := Lib.hid hsi
    clear hlat hV3 hx0 hC3 hA3 l1 l2 hus hsi
    go_upto_region 12 with (fail)
    clear htm hlt
    refine wp_gen (fun W' => Px W p q t r d b Al c gs tu si us ru fa 2 tm W.heap.size p W' ∧ RowB W' pa 30 [.slice Aa gs.length ca, .int .i64 tu, .int .i64 tm, .int .i64 u, .bool false, .int .i64 (-1)] ∧ OwnS W' la pa 2 1 enI (.slice Aa gs.length ca) gs) ⟨K.alloc _, Ra.alloc _, oa.alloc _⟩ ?_
    clear K Ra oa a0 a1 a2 a3 a4 a5 hal
    clear p0 p1 p2 q0 q1 q2 q3 q4 q5 s0 s1 lp lq lt
    rintro w8 ⟨K, Ra, oa⟩
    have hal := Ra.lt
    obtain ⟨a0, a1, a2, a3, a4, a5⟩ := Ra.c6
    obtain ⟨p0, p1, p2⟩ := K.q4.c3
    obtain ⟨q0, q1, q2, q3, q4, q5⟩ := K.q5.c6
    obtain ⟨s0, s1⟩ := K.q6.c2
    have lp := K.q4.lt
    have lq := K.q5.lt
    have lt := K.q6.lt
    go_wp2_with fail
    refine (ap_impl r d b Aa ca pa gs tu tm u false (-1) 3 later _ gs tu later u true (-1) 0 (Nat.le_of_lt hal) (oa.rd enI_len) HA3.out).mono ?_
    rintro e w9 ⟨Ab, cb, rfl, hb, ob⟩
    have K := K.below hb
    clear p0 p1 p2 q0 q1 q2 q3 q4 q5 s0 s1 lp lq lt hb hal a0 a1 a2 a3 a4 a5 Ra oa
    go_upto_region 13 with (fail)
    refine wp_gen (fun W' => Px W p q t r d b Al c gs tu si us ru fa 2 tm W.heap.size p W' ∧ RowB W' w9.heap.size 30 [.slice Ab gs.length cb, .int .i64 tu, .int .i64 later, .int .i64 u, .bool true, .int .i64 (-1)] ∧ OwnS W' w8.heap.size w9.heap.size 2 1 enI (.slice Ab gs.length cb) gs) ⟨K.alloc _, RowB.new _ _ _, ob.alloc _⟩ ?_
    clear K ob
    generalize w9.heap.size = pb
    generalize w8.heap.size = lb
    rintro w10 ⟨K, Rb, ob⟩
    obtain ⟨p0, p1, p2⟩ := K.q4.c3
    obtain ⟨q0, q1, q2, q3, q4, q5⟩ := K.q5.c6
    obtain ⟨s0, s1⟩ := K.q6.c2
    have lp := K.q4.lt
    have lq := K.q5.lt
    have lt := K.q6.lt
    go_wp2_with fail
    refine (tl_impl r d b Al c p gs tu si us ru fa tu tm _ K.hh (K.o.rd enI_len)).mono ?_
    rintro e w11 ⟨rfl, hb⟩
    rw [HX0.out]
    have hal := Rb.lt
    have K := K.below hb
    have ob := ob.below hb (Nat.le_of_lt hal)
    have Rb := Rb.below hb hal
    clear p0 p1 p2 q0 q1 q2 q3 q4 q5 s0 s1 lp lq lt hb hal
    have hal := Rb.lt
    obtain ⟨a0, a1, a2, a3, a4, a5⟩ := Rb.c6
    obtain ⟨p0, p1, p2⟩ := K.q4.c3
    obtain ⟨q0, q1, q2, q3, q4, q5⟩ := K.q5.c6
    obtain ⟨s0, s1⟩ := K.q6.c2
    have lp := K.q4.lt
    have lq := K.q5.lt
    have lt := K.q6.lt
    go_wp2_with fail
    refine (tl_impl r d b Ab cb pb gs tu later u true (-1) tu later _ (Nat.le_of_lt hal) (ob.rd enI_len)).mono ?_
    rintro e w12 ⟨rfl, hb⟩
    rw [HC3.out]
    have K := K.below hb
    have Rb := Rb.below hb hal
    clear p0 p1 p2 q0 q1 q2 q3 q4 q5 s0 s1 lp lq lt hb hal a0 a1 a2 a3 a4 a5 ob
    obtain ⟨a0, a1, a2, a3, a4, a5⟩ := Rb.c6
    obtain ⟨p0, p1, p2⟩ := K.q4.c3
    obtain ⟨q0, q1, q2, q3, q4, q5⟩ := K.q5.c6
    obtain ⟨s0, s1⟩ := K.q6.c2
    have lp := K.q4.lt
    have lq := K.q5.lt
    have lt := K.q6.lt
    obtain ⟨X, hX⟩ : ∃ X, tlV r d b gs tu si us ru fa tu tm = X := ⟨_, rfl⟩
    obtain ⟨Y, hY⟩ : ∃ Y, tlV r d b gs tu later u true (-1) tu later = Y := ⟨_, rfl⟩
    have hxy := HV3.out
    rw [hX, hY] at hxy ⊢
    clear hX hY
    rcases hxy with rfl | ⟨hxy, hg⟩
    · go_wp2_with fail
      go_ret
      exact ⟨rfl, K.bel⟩
    · have hne : (X == Y) = false := by simp; omega
      have hlt' : decide (X < Y) = true := decide_eq_true hxy
      obtain ⟨u1, u2⟩ := HUS.out
      obtain ⟨i1, i2⟩ := HSI.out
      obtain ⟨m1, m2⟩ := HT.out
      clear hxy
      have hgd : decide ((100000000 : Int) < us + tm - si) = true := decide_eq_true hg
      go_wp2_with fail
      go_ret
      exact ⟨rfl, K.bel⟩
end Go.Proofs.Ytdjopnhbcchedaa.PauseLaw
