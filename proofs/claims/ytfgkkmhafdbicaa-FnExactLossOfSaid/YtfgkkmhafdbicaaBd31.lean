/-
  Where a board stands among plays: of the reference; are two boards the same: of the program. Conditions: each theorem's own.
-/
import Derived.Test.YtfgkkmhafdbicaaBd11
import Derived.Test.YtfgkkmhafdbicaaBd10
set_option linter.unusedVariables false
set_option linter.unusedSimpArgs false
namespace Go.Proofs.Ytfgkkmhafdbicaa.Bd31
open Go.ChangeShapes Go.WideShapes Go.ChangeAt Go.RowKit Base Ints Own Clone RelG PlP Bd1 Bd5 Bd8 Bd10 Bd11

/-- The place of the first play with a board, counted from i, or -1. -/
def fdP : List Pl → Bd → Nat → Int
  | [], _, _ => -1
  | q :: l, b, i => if q.2 = b then (i : Int) else fdP l b (i + 1)
theorem fd_skip {b : Bd} : ∀ (l m : List Pl) (i : Nat), hasB l b = false → fdP (l ++ m) b i = fdP m b (i + l.length) := by
  intro l
  induction l with
  | nil => intro m i _; rfl
  | cons q l ih =>
    intro m i h
    unfold hasB at h ih
    simp only [List.any_cons, Bool.or_eq_false_iff, decide_eq_false_iff_not] at h
    simp only [List.cons_append, fdP]
    rw [if_neg h.1, ih m (i + 1) h.2, List.length_cons]
    congr 1; omega
theorem fd_at {out : List Pl} {b : Bd} {k : Nat} {q : Pl} (hq : out[k]? = some q) (hn : hasB (out.take k) b = false) (h : q.2 = b) : fdP out b 0 = (k : Int) := by
  obtain ⟨hk, hx⟩ := List.getElem?_eq_some_iff.1 hq
  have e : out = out.take k ++ (q :: out.drop (k + 1)) := by rw [← hx, ← List.drop_eq_getElem_cons hk, List.take_append_drop]
  rw [e, fd_skip _ _ _ hn, List.length_take]
  simp only [fdP]
  rw [if_pos h]
  omega
theorem fd_none {out : List Pl} {b : Bd} (h : hasB out b = false) : fdP out b 0 = -1 := by
  have := fd_skip out [] 0 h
  rw [List.append_nil] at this
  rw [this]; rfl
theorem fd_bd : ∀ (out : List Pl) (b : Bd) (i : Nat), fdP out b i = -1 ∨ ((i : Int) ≤ fdP out b i ∧ fdP out b i < (i : Int) + out.length) := by
  intro out
  induction out with
  | nil => intro b i; exact .inl rfl
  | cons q l ih =>
    intro b i
    simp only [fdP, List.length_cons]
    split
    · exact .inr ⟨Int.le_refl _, by omega⟩
    · rcases ih b (i + 1) with h | h
      · exact .inl h
      · exact .inr (by omega)
set_option maxHeartbeats 4000000 in
set_option maxRecDepth 100000 in
theorem find2_s (out : List Pl) (b : Bd) (n : Nat) (hn : 0 < n ∧ n ≤ 1000) (hout : ∀ q ∈ out, q.2.1.length = n ∧ q.2.2.length = n) (h1 : b.1.length = n) (h2 : b.2.length = n) (u : Value) (A1 A2 : Option Addr) (c1 c2 B : Nat) (w : World) (hB : B ≤ w.heap.size)
    (hu : SlG RelP 3 enP w All u out) (r1 : RdS w B 1 enI A1 b.1) (r2 : RdS w B 1 enI A2 b.2) :
    Calls Try.prog 32 #[u, .agg #[.slice A1 n c1, .slice A2 n c2]] w fun e w' => e = .returned (.int .i64 (fdP out b 0)) ∧ Below w.heap.size w w' := by
  obtain ⟨Ap, cp, rs, rfl, hrd, hls, -⟩ := hu
  have hmx := hrd.len
  rw [hls.1] at hmx
  obtain ⟨N, hN⟩ : ∃ N, out.length = N := ⟨_, rfl⟩
  rw [hN] at hmx ⊢
  have HNN := Lib.hid hN
  obtain ⟨Z, hZ⟩ : ∃ Z, fdP out b 0 = Z := ⟨_, rfl⟩
  rw [hZ]
  have HZ := Lib.hid hZ
  clear hZ
  have HRD := Lib.hid hrd
  have HLS := Lib.hid hls
  have HOUT := Lib.hid hout
  have H1 := Lib.hid h1
  have H2 := Lib.hid h2
  have R1 := Lib.hid r1
  have R2 := Lib.hid r2
  have CS := Lib.hid (fun (q : Bd) (B1 B2 : Option Addr) (d1 d2 : Nat) (q1 : q.1.length = n) (q2 : q.2.length = n) (w9 : World) (h : Below w.heap.size w w9) (k1 : RdS w9 w9.heap.size 1 enI B1 q.1) (k2 : RdS w9 w9.heap.size 1 enI B2 q.2) (x : Bool) (hx : decide (q = b) = x) =>
    same_s q b n q1 q2 h1 h2 hn B1 B2 A1 A2 d1 d2 c1 c2 w9.heap.size w9 (Nat.le_refl _) k1 k2 ((r1.below h hB).more (Nat.le_trans hB h.size)) ((r2.below h hB).more (Nat.le_trans hB h.size)) x hx)
  clear hN hrd hls hout h1 h2 r1 r2
  go_enter Try.func32, Try.ntmps32
  go_upto_region 1 with (fail)
  refine wp_gen (fun W' => Below w.heap.size w W' ∧ RowB W' w.heap.size 34 [.slice A1 n c1, .slice A2 n c2]) ⟨by go_grown, RowB.new _ _ _⟩ ?_
  rintro w1 ⟨hbW, ra⟩
  obtain ⟨y0, y1⟩ := ra.c2
  have hl1 := ra.lt
  go_wp2_with fail
  go_loopw [5] (fun i wr => ∃ k : Nat, k ≤ N ∧ i = .int .i64 (k : Int) ∧ Hid (Below w.heap.size w wr) ∧ RowB wr w.heap.size 34 [.slice A1 n c1, .slice A2 n c2] ∧ Hid (hasB (out.take k) b = false)) (fun i _ => N - (intOf i).toNat)
  case atStart => exact ⟨0, Nat.zero_le _, by first | rfl | trivial, Lib.hid hbW, ra, Lib.hid rfl⟩
  case round =>
    obtain ⟨k, hk, rfl, hb, ra, hno⟩ := hrel
    clear y0 y1 hl1
    obtain ⟨y0, y1⟩ := ra.c2
    have hl1 := ra.lt
    by_cases hlt : k < N
    · have hst : Still All w wr := Still.below hb.out
      obtain ⟨b1, o1, r, rfl, -, hb1, hr, hc⟩ := (HRD.out.keep hst).at_ (i := k) (by rw [HLS.out.1, HNN.out]; exact hlt)
      obtain ⟨q, hq, hR⟩ := (HLS.out.keep hst).at_ hr
      obtain ⟨ss, bd⟩ := q
      obtain ⟨r0, rl, rm⟩ := r
      have hR1 := hR.2.1
      have hR2 := hR.2.2
      simp only at hR1 hR2
      obtain ⟨B1, d1, rfl, k1, -⟩ := hR1
      obtain ⟨B2, d2, rfl, k2, -⟩ := hR2
      have hln := HOUT.out _ (List.mem_of_getElem? hq)
      simp only at hln
      have hc1 := hc 1 _ rfl
      have hc2 := hc 2 _ rfl
      rw [hln.1] at hc1
      rw [hln.2] at hc2
      have HT := Lib.hid (show out.take (k + 1) = out.take k ++ [(ss, bd)] from take_succ out k _ hq)
      obtain ⟨x, hx⟩ : ∃ x, decide (bd = b) = x := ⟨_, rfl⟩
      have C := Lib.hid (fun W (h : wr = W) => CS.out bd B1 B2 d1 d2 hln.1 hln.2 wr.drew hb.out.drew k1.rd k2.rd x hx)
      have HX := Lib.hid hx
      have HQ := Lib.hid hq
      have hkn : (k : Int) < (N : Int) := by omega
      have hwk : IntKind.i64.wrap ((k : Int) + 1) = (k : Int) + 1 := IntWalk.i64_in _ (by omega)
      clear hst hr hq hR hc k1 k2 hln hx
      go_wp2_with fail
      go_still_tail 6, (by kernel_rfl)
      go_wp2_with fail
      refine (C.out _ rfl).mono ?_
      rintro e w2 ⟨rfl, hb2⟩
      have ra := ra.drew.below hb2 ra.drew.lt
      have hbn := Lib.hid (hb.out.drew.trans (hb2.mono hb.out.drew.size))
      clear y0 y1 hl1 hb hb2 hc1 hc2 C
      obtain ⟨y0, y1⟩ := ra.c2
      have hl1 := ra.lt
      cases x
      case false =>
        have hnN : Hid (hasB (out.take (k + 1)) b = false) := Lib.hid (by rw [HT.out, hasB_snoc, hno.out, HX.out]; rfl)
        go_wp2_with fail
        go_roundw
        case rel => exact ⟨k + 1, by omega, by go_num, hbn, ra, hnN⟩
        case measure => simp [intOf]; omega
      case true =>
        have hY : Hid (Z = (k : Int)) := Lib.hid (by rw [← HZ.out, fd_at HQ.out hno.out (of_decide_eq_true HX.out)])
        go_wp2_with fail
        go_ret
        exact ⟨ret1 hY.out.symm, hbn.out⟩
    · obtain rfl : N = k := by omega
      have hA : Hid (hasB out b = false) := Lib.hid (by rw [← hno.out, ← HNN.out, List.take_length])
      go_wp2_with fail
      go_ret
      exact ⟨ret1 (by rw [← HZ.out, fd_none hA.out]), hb.out⟩

set_option maxHeartbeats 2000000 in
theorem slEq (l m : List Int) (n : Nat) (hl : l.length = n) (hm : m.length = n) (A1 A2 : Option Addr) (c1 c2 B : Nat) (w : World) (r1 : RdS w B 1 enI A1 l) (r2 : RdS w B 1 enI A2 m) (x : Bool) (hx : decide (l = m) = x) :
    Calls Try.prog 81 #[.slice A1 n c1, .slice A2 n c2] w fun e w' => e = .returned (.bool x) ∧ Below w.heap.size w w' := by
  have hnm := r1.len
  rw [hl] at hnm
  have HX : Hid (decide (∀ i, i < n → at_ l i = at_ m i) = x) := Lib.hid (by rw [← hx, ← hl]; exact (eq_at (by rw [hl, hm])).symm)
  have H1 := Lib.hid hl
  have H2 := Lib.hid hm
  have R1 := Lib.hid r1
  have R2 := Lib.hid r2
  clear hl hm r1 r2 hx
  go_enter Try.func81, Try.ntmps81
  go_wp2_with fail
  go_loopw [13] (fun i wr => ∃ k : Nat, k ≤ n ∧ i = .int .i64 (k : Int) ∧ Hid (∃ q, wr = w.drewN q) ∧ Hid (∀ i, i < k → at_ l i = at_ m i)) (fun i _ => n - (intOf i).toNat)
  case atStart => exact ⟨0, Nat.zero_le _, by first | rfl | trivial, Lib.hid ⟨0, rfl⟩, Lib.hid (fun i h => absurd h (Nat.not_lt_zero _))⟩
  case round =>
    obtain ⟨k, hk, rfl, hq, hsame⟩ := hrel
    by_cases hlt : k < n
    · obtain ⟨b1, o1, rfl, hb1', hc1⟩ := at_rd R1.out (i := k) (by rw [H1.out]; exact hlt)
      obtain ⟨b2, o2, rfl, hb2', hc2⟩ := at_rd R2.out (i := k) (by rw [H2.out]; exact hlt)
      have d1 : wr.cell? ⟨b1, o1 + k, none⟩ = some (.int .i64 (at_ l k)) := by obtain ⟨q, rfl⟩ := hq.out; exact hc1
      have d2 : wr.cell? ⟨b2, o2 + k, none⟩ = some (.int .i64 (at_ m k)) := by obtain ⟨q, rfl⟩ := hq.out; exact hc2
      have hkn : (k : Int) < (n : Int) := by omega
      have hwk : IntKind.i64.wrap ((k : Int) + 1) = (k : Int) + 1 := IntWalk.i64_in _ (by omega)
      clear hc1 hc2
      by_cases hv : at_ l k = at_ m k
      · have e1 : (at_ l k != at_ m k) = false := by simp [hv]
        have hsN := Lib.hid (show ∀ i, i < k + 1 → at_ l i = at_ m i from fun i hi => by
          by_cases e : i = k
          · rw [e]; exact hv
          · exact hsame.out i (by omega))
        clear hv
        go_wp2_with fail
        go_quiet (fail)
        go_wp2_with fail
        go_roundw
        case rel => exact ⟨k + 1, by omega, by go_num, Lib.hid (by obtain ⟨q, rfl⟩ := hq.out; exact ⟨_, World.drewN_drewN _ _ _⟩), hsN⟩
        case measure => simp [intOf]; omega
      · have e1 : (at_ l k != at_ m k) = true := by simp [hv]
        obtain rfl : x = false := by rw [← HX.out]; exact decide_eq_false (fun h => hv (h k hlt))
        clear hv
        go_wp2_with fail
        go_quiet (fail)
        go_wp2_with fail
        go_ret
        exact ⟨rfl, by obtain ⟨q, rfl⟩ := hq.out; exact below_drewN (below_drewN (Below.refl _ _) _) _⟩
    · obtain rfl : k = n := by omega
      have hnk : ¬ ((k : Int) < (k : Int)) := by omega
      obtain rfl : x = true := by rw [← HX.out]; exact decide_eq_true hsame.out
      go_wp2_with fail
      go_ret
      exact ⟨rfl, by obtain ⟨q, rfl⟩ := hq.out; exact below_drewN (Below.refl _ _) _⟩

set_option maxHeartbeats 2000000 in
theorem same_i (a b : Bd) (n : Nat) (h1 : a.1.length = n) (h2 : a.2.length = n) (h3 : b.1.length = n) (h4 : b.2.length = n) (A1 A2 A3 A4 : Option Addr) (c1 c2 c3 c4 : Nat) (w : World)
    (r1 : RdS w w.heap.size 1 enI A1 a.1) (r2 : RdS w w.heap.size 1 enI A2 a.2) (r3 : RdS w w.heap.size 1 enI A3 b.1) (r4 : RdS w w.heap.size 1 enI A4 b.2) (x : Bool) (hx : decide (a = b) = x) :
    Calls Try.prog 64 #[.agg #[.slice A1 n c1, .slice A2 n c2], .agg #[.slice A3 n c3, .slice A4 n c4]] w fun e w' => e = .returned (.bool x) ∧ Below w.heap.size w w' := by
  obtain ⟨y, hy⟩ : ∃ y, decide (a.1 = b.1) = y := ⟨_, rfl⟩
  obtain ⟨z, hz⟩ : ∃ z, decide (a.2 = b.2) = z := ⟨_, rfl⟩
  have HX : Hid ((y && z) = x) := Lib.hid (by
    rw [← hx, ← hy, ← hz, ← Bool.decide_and]
    exact decide_eq_decide.2 ⟨fun h => Prod.ext h.1 h.2, fun h => by rw [h]; exact ⟨rfl, rfl⟩⟩)
  have C1 := Lib.hid (fun (w9 : World) (h : Below w.heap.size w w9) => slEq a.1 b.1 n h1 h3 A1 A3 c1 c3 w.heap.size w9 (r1.below h (Nat.le_refl _)) (r3.below h (Nat.le_refl _)) y hy)
  have C2 := Lib.hid (fun (w9 : World) (h : Below w.heap.size w w9) => slEq a.2 b.2 n h2 h4 A2 A4 c2 c4 w.heap.size w9 (r2.below h (Nat.le_refl _)) (r4.below h (Nat.le_refl _)) z hz)
  clear h1 h2 h3 h4 r1 r2 r3 r4 hx hy hz
  go_enter Try.func64, Try.ntmps64
  go_upto_region 1 with (fail)
  refine wp_gen (fun W' => Below w.heap.size w W' ∧ RowB W' w.heap.size 34 [.slice A1 n c1, .slice A2 n c2] ∧ RowB W' (w.heap.size + 1) 34 [.slice A3 n c3, .slice A4 n c4]) ⟨by go_grown, (RowB.new _ _ _).alloc _, RowB.new' _ _ _ (by simp)⟩ ?_
  rintro w1 ⟨hb1, ra, rb⟩
  obtain ⟨p0, p1⟩ := ra.c2
  obtain ⟨r0, r1⟩ := rb.c2
  have hl1 := ra.lt
  have hl2 := rb.lt
  go_wp2_with fail
  refine (C1.out w1 hb1).mono ?_
  rintro e w2 ⟨rfl, hb2⟩
  have ra := ra.below hb2 ra.lt
  have rb := rb.below hb2 rb.lt
  have hb1 := hb1.trans (hb2.mono hb1.size)
  clear p0 p1 r0 r1 hl1 hl2 hb2
  obtain ⟨p0, p1⟩ := ra.c2
  obtain ⟨r0, r1⟩ := rb.c2
  have hl1 := ra.lt
  have hl2 := rb.lt
  cases y
  · obtain rfl : x = false := by rw [← HX.out]; rfl
    go_wp2_with fail
    go_ret
    exact ⟨rfl, hb1⟩
  · obtain rfl : x = z := by rw [← HX.out]; rfl
    go_wp2_with fail
    refine (C2.out w2 hb1).mono ?_
    rintro e w3 ⟨rfl, hb3⟩
    have hb1 := hb1.trans (hb3.mono hb1.size)
    go_wp2_with fail
    go_ret
    exact ⟨rfl, hb1⟩
end Go.Proofs.Ytfgkkmhafdbicaa.Bd31
