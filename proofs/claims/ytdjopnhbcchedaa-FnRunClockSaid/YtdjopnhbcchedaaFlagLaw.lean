/-
  The law on the flag: it falls at the first time at which no rest is left. Conditions: none beyond the given row's.
-/
import Derived.Test.YtdjopnhbcchedaaDrawF
set_option linter.unusedVariables false
namespace Go.Proofs.Ytdjopnhbcchedaa.FlagLaw
open Go.ChangeShapes Go.WideShapes Go.ChangeAt Go.RowKit Base Base2 Ints Own Draw RegInv Clock ClockSt ClockR ClockT ClockRun DrawF

theorem flag_bad {r d b : Int} {xs : List Int} {turn since used : Int} {run : Bool} {fallen : Int} (h : flC r d b xs turn since used run fallen ≠ 0) : flV r d b xs turn since used run fallen = 0 := by
  unfold flC at h
  unfold flV
  split at h
  · split at h
    · split at h
      · exact absurd rfl h
      · rename_i h1 h2 h3
        rw [if_neg (by simp [h3])]
    · rename_i h1 h2
      rw [if_neg (by simp [h2])]
  · rename_i h1
    rw [if_neg (by simp [h1])]

theorem flag_ok {r d b : Int} {xs : List Int} {turn since used : Int} {run : Bool} {fallen : Int} (h : flC r d b xs turn since used run fallen = 0) :
    ∃ x y T, xs = [x, y] ∧ (turn = 0 ∨ turn = 1) ∧ flV r d b xs turn since used run fallen = T ∧ since ≤ T ∧ T ≤ 100000000 ∧ 0 ≤ since ∧
      tlV r d b xs turn since used run fallen turn T = 0 ∧ tlC r d b xs turn since used run fallen turn T = 0 ∧
      (∀ k : Nat, 1 - turn = (k : Int) → tlV r d b xs turn since used run fallen k T = xs.getD k 0 ∧ tlC r d b xs turn since used run fallen k T = 0) ∧
      (T ≠ since → 0 < tlV r d b xs turn since used run fallen turn (T - 1) ∧ tlC r d b xs turn since used run fallen turn (T - 1) = 0) := by
  have hok : okCS r d b xs turn since used run fallen = true := by
    unfold flC at h
    split at h
    · assumption
    · cases h
  have hrun : run = true := by
    unfold flC at h
    rw [if_pos hok] at h
    split at h
    · assumption
    · cases h
  have hT : flT (sideOf xs turn) d since used ≤ 100000000 := by
    unfold flC at h
    rw [if_pos hok, if_pos hrun] at h
    split at h
    · assumption
    · cases h
  obtain ⟨x, y, rfl, hr, hd, hb, hx, hy, ht, hs, hu, hf⟩ := okCS_elim hok
  have hl : 0 ≤ sideOf [x, y] turn ∧ sideOf [x, y] turn ≤ 100000000 := by
    rcases ht with rfl | rfl
    · exact hx
    · exact hy
  have hTs : since ≤ flT (sideOf [x, y] turn) d since used := by
    unfold flT
    split <;> omega
  have e1 : (turn = 0 ∨ turn = 1) := ht
  subst hrun
  refine ⟨x, y, _, rfl, ht, by unfold flV; rw [if_pos ⟨hok, rfl, hT⟩], hTs, hT, hs.1, ?_, ?_, ?_, ?_⟩
  · unfold tlV
    rw [if_pos ⟨hok, ht, hTs, hT⟩, if_pos rfl]
    unfold rest elap
    rw [if_pos rfl]
    unfold flT
    generalize sideOf [x, y] turn = l at *
    split <;> omega
  · unfold tlC
    rw [if_pos hok, if_pos ⟨ht, hTs, hT⟩]
  · intro k hk
    have hk1 : (k : Int) = 0 ∨ (k : Int) = 1 := by omega
    have hkt : (k : Int) ≠ turn := by omega
    constructor
    · unfold tlV
      rw [if_pos ⟨hok, hk1, hTs, hT⟩, if_neg hkt]
      unfold sideOf
      rw [Int.toNat_natCast]
    · unfold tlC
      rw [if_pos hok, if_pos ⟨hk1, hTs, hT⟩]
  · intro hne
    have h1 : since ≤ flT (sideOf [x, y] turn) d since used - 1 := by omega
    have h2 : flT (sideOf [x, y] turn) d since used - 1 ≤ 100000000 := by omega
    constructor
    · unfold tlV
      rw [if_pos ⟨hok, ht, h1, h2⟩, if_pos rfl]
      unfold rest elap
      rw [if_pos rfl]
      unfold flT at hne ⊢
      generalize sideOf [x, y] turn = l at *
      split at hne
      · rename_i h3
        rw [if_pos h3]
        omega
      · exact absurd rfl hne
    · unfold tlC
      rw [if_pos hok, if_pos ⟨ht, h1, h2⟩]

/-- Between the law's calls: the two boxes, the state's own slice. -/
structure Fx (w0 : World) (p q : Nat) (r d b : Int) (Al : Option Addr) (c : Nat) (gs : List Int) (tu si us : Int) (ru : Bool) (fa : Int) (lo hi : Nat) (w : World) : Prop where
  q4 : RowB w p 25 [.int .i64 r, .int .i64 d, .int .i64 b]
  q5 : RowB w q 30 [.slice Al gs.length c, .int .i64 tu, .int .i64 si, .int .i64 us, .bool ru, .int .i64 fa]
  o : OwnS w lo hi 2 1 enI (.slice Al gs.length c) gs
  hh : hi ≤ w.heap.size
  bel : Below w0.heap.size w0 w
theorem Fx.below {w0 w w' : World} {p q : Nat} {r d b : Int} {Al : Option Addr} {c : Nat} {gs : List Int} {tu si us : Int} {ru : Bool} {fa : Int} {lo hi : Nat} (h : Fx w0 p q r d b Al c gs tu si us ru fa lo hi w) (hb : Below w.heap.size w w') : Fx w0 p q r d b Al c gs tu si us ru fa lo hi w' :=
  ⟨h.q4.below hb h.q4.lt, h.q5.below hb h.q5.lt, h.o.below hb h.hh, Nat.le_trans h.hh hb.size, h.bel.trans (hb.mono h.bel.size)⟩

theorem bigF (n cp : Nat) (A : Option Addr) (b : Bool) (hb : decide ((4096 : Int) < (n : Int)) = b) (w : World) (hn : n ≤ maxLen) : Calls Try.prog 29 #[.slice A n cp] w fun e w' => e = .returned (.bool b) ∧ w = w' := by
  subst hb
  unfold maxLen at hn
  go_enter Try.func29, Try.ntmps29
  go_wp2
  go_ret
  exact ⟨rfl, rfl⟩

set_option maxHeartbeats 1000000 in
set_option maxRecDepth 100000 in
theorem flagL (Ac : Option Addr) (cpc : Nat) (cs : List Int) (W : World) (hr : RdS W W.heap.size 1 enB Ac cs) (hw : ∀ x ∈ cs, (Lit.int .u8 x).wf = true) :
    Calls Try.prog 10 #[.slice Ac cs.length cpc] W fun e w' => e = .returned (.bool true) ∧ Below W.heap.size W w' := by
  cases hbig : decide ((4096 : Int) < (cs.length : Int))
  case true =>
    have HB := Lib.hid hbig; clear hbig
    go_enter Try.func10, Try.ntmps10
    go_wp2_with fail
    refine (bigF _ cpc Ac true HB.out _ hr.1).mono ?_
    rintro e w1 ⟨rfl, rfl⟩
    go_wp2_with fail
    go_ret
    exact ⟨rfl, Below.refl _ _⟩
  have HB := Lib.hid hbig; clear hbig
  go_enter Try.func10, Try.ntmps10
  go_wp2_with fail
  refine (bigF _ cpc Ac false HB.out _ hr.1).mono ?_
  rintro e w1 ⟨rfl, rfl⟩
  go_wp2_with fail
  refine (flag_ hr hw).mono ?_
  rintro e w2 ⟨r, d, b, Al, c, gs, tu, si, us, ru, fa, rfl, ho, hb2⟩
  clear hr hw
  go_upto_region 4 with (fail)
  refine wp_gen (fun W' => Fx W w2.heap.size (w2.heap.size + 1) r d b Al c gs tu si us ru fa W.heap.size w2.heap.size W') ⟨(RowB.new _ _ _).alloc _, RowB.new' _ _ _ (by simp), (ho.alloc _).alloc _, by simp only [World.size_alloc]; omega, (hb2.alloc hb2.size _).alloc (by simp only [World.size_alloc]; have := hb2.size; omega) _⟩ ?_
  generalize w2.heap.size = p
  obtain ⟨q, hq⟩ : ∃ q, p + 1 = q := ⟨_, rfl⟩
  rw [hq]
  clear ho hb2 hq
  rintro w3 K
  obtain ⟨p0, p1, p2⟩ := K.q4.c3
  obtain ⟨q0, q1, q2, q3, q4, q5⟩ := K.q5.c6
  go_wp2_with fail
  refine (fl_impl r d b Al c p gs tu si us ru fa _ K.hh (K.o.rd enI_len)).mono ?_
  rintro e w4 ⟨rfl, hb⟩
  have K := K.below hb
  clear hb p0 p1 p2 q0 q1 q2 q3 q4 q5
  obtain ⟨p0, p1, p2⟩ := K.q4.c3
  obtain ⟨q0, q1, q2, q3, q4, q5⟩ := K.q5.c6
  go_wp2_with fail
  refine (fl_spec r d b Al c p gs tu si us ru fa _ K.hh (K.o.rd enI_len)).mono ?_
  rintro e w5 ⟨rfl, hb⟩
  have K := K.below hb
  clear hb p0 p1 p2 q0 q1 q2 q3 q4 q5
  obtain ⟨p0, p1, p2⟩ := K.q4.c3
  obtain ⟨q0, q1, q2, q3, q4, q5⟩ := K.q5.c6
  have hcc : ∀ z : Int, (z != z) = false := fun z => by simp
  by_cases hc : flC r d b gs tu si us ru fa = 0
  case neg =>
    have hv := flag_bad hc
    have hc2 : (flC r d b gs tu si us ru fa != 0) = true := by simp [hc]
    rw [hv]
    generalize flC r d b gs tu si us ru fa = cv at *
    clear hc hv
    go_wp2_with fail
    go_ret
    exact ⟨rfl, K.bel⟩
  obtain ⟨x, y, T, rfl, ht, hv, h1, h2, h3, t1, t2, t3, t4⟩ := flag_ok hc
  rw [hc, hv]
  have HT4 := Lib.hid t4
  obtain ⟨k, hk⟩ : ∃ k : Nat, 1 - tu = (k : Int) := ⟨(1 - tu).toNat, by omega⟩
  have hk2 : k < 2 := by omega
  have htb : 0 ≤ tu ∧ tu ≤ 1 := by omega
  obtain ⟨t5, t6⟩ := t3 k hk
  clear hc hv t3 t4 ht
  obtain ⟨bk, off, z, rfl, hbk, hz, hcz⟩ := rdI_at (K.o.rd enI_len) (i := k) hk2
  have hzv : ([x, y] : List Int).getD k 0 = z := by rw [List.getD_eq_getElem?_getD, hz]; rfl
  rw [hzv] at t5
  clear hz hcz
  go_wp2_with fail
  refine (tl_impl r d b _ c p [x, y] tu si us ru fa tu T _ K.hh (K.o.rd enI_len)).mono ?_
  rintro e w6 ⟨rfl, hb⟩
  rw [t1, t2]
  have K := K.below hb
  clear hb p0 p1 p2 q0 q1 q2 q3 q4 q5 t1 t2
  obtain ⟨p0, p1, p2⟩ := K.q4.c3
  obtain ⟨q0, q1, q2, q3, q4, q5⟩ := K.q5.c6
  go_wp2_with fail
  refine (tl_impl r d b _ c p [x, y] tu si us ru fa k T _ K.hh (K.o.rd enI_len)).mono ?_
  rintro e w7 ⟨rfl, hb⟩
  rw [t5, t6]
  have K := K.below hb
  clear hb p0 p1 p2 q0 q1 q2 q3 q4 q5 t5 t6
  obtain ⟨p0, p1, p2⟩ := K.q4.c3
  obtain ⟨q0, q1, q2, q3, q4, q5⟩ := K.q5.c6
  obtain ⟨bk', off', z', hA', _, hz', hcz⟩ := rdI_at (K.o.rd enI_len) (i := k) hk2
  have hzz : z' = z := by
    have : ([x, y] : List Int).getD k 0 = z' := by rw [List.getD_eq_getElem?_getD, hz']; rfl
    rw [← this, ← hzv]
  subst hzz
  simp only [Option.some.injEq, Addr.mk.injEq, and_true] at hA'
  obtain ⟨rfl, rfl⟩ := hA'
  clear hz' hzv hk2
  by_cases hTs : T = si
  case pos =>
    have hts : (T == si) = true := by simp [hTs]
    clear hTs
    go_wp2_with fail
    go_ret
    exact ⟨rfl, K.bel⟩
  obtain ⟨t7, t8⟩ := HT4.out hTs
  have hts : (T == si) = false := by simp [hTs]
  have ht7 := decide_eq_true t7
  clear hTs
  go_wp2_with fail
  refine (tl_impl r d b _ c p [x, y] tu si us ru fa tu (T - 1) _ K.hh (K.o.rd enI_len)).mono ?_
  rintro e w8 ⟨rfl, hb⟩
  rw [t8]
  have K := K.below hb
  go_wp2_with fail
  go_ret
  exact ⟨rfl, K.bel⟩
end Go.Proofs.Ytdjopnhbcchedaa.FlagLaw
