/-
  Plays in memory; does a list of plays hold a board: of the reference. Conditions: each theorem's own.
-/
import Derived.Test.YtfgkkmhafdbicaaBd8
import Derived.Test.YtfgkkmhafdbicaaBd9
import Derived.Test.YtfgkkmhafdbicaaBd4
import Derived.StillTailTactics
set_option linter.unusedVariables false
set_option linter.unusedSimpArgs false
namespace Go.Proofs.Ytfgkkmhafdbicaa.Bd11
open Go.ChangeShapes Go.WideShapes Go.ChangeAt Go.RowKit Base Ints Own Clone RelG PlP Bd1 Bd5 Bd8 Bd10

/-- The cells of a play: its steps, the two sides of the board behind them. -/
abbrev PRow := Value × Value × Value
def enP (r : PRow) : List Value := [r.1, r.2.1, r.2.2]
theorem enP_len (r : PRow) : (enP r).length = 3 := rfl
def RelP : Rel PRow Pl where
  R := fun w S r x => OwnV 71 4 enSt w S r.1 x.1 ∧ SlV 1 enI w S r.2.1 x.2.1 ∧ SlV 1 enI w S r.2.2 x.2.2
  keep := fun h hs => ⟨(relO 71 4 enSt).keep h.1 hs, (relV 1 enI).keep h.2.1 hs, (relV 1 enI).keep h.2.2 hs⟩
  weak := fun h hs => ⟨(relO 71 4 enSt).weak h.1 hs, (relV 1 enI).weak h.2.1 hs, (relV 1 enI).weak h.2.2 hs⟩
theorem hasB_snoc (out : List Pl) (p : Pl) (b : Bd) : hasB (out ++ [p]) b = (hasB out b || decide (p.2 = b)) := by unfold hasB; simp
set_option maxHeartbeats 4000000 in
set_option maxRecDepth 100000 in
theorem find_s (out : List Pl) (b : Bd) (n : Nat) (hn : 0 < n ∧ n ≤ 1000) (hout : ∀ q ∈ out, q.2.1.length = n ∧ q.2.2.length = n) (h1 : b.1.length = n) (h2 : b.2.length = n) (u : Value) (A1 A2 : Option Addr) (c1 c2 B : Nat) (w : World) (hB : B ≤ w.heap.size)
    (hu : SlG RelP 3 enP w All u out) (r1 : RdS w B 1 enI A1 b.1) (r2 : RdS w B 1 enI A2 b.2) :
    Calls Try.prog 32 #[u, .agg #[.slice A1 n c1, .slice A2 n c2]] w fun e w' => ∃ r : Int, e = .returned (.int .i64 r) ∧ decide (r < 0) = !hasB out b ∧ Below w.heap.size w w' := by
  obtain ⟨Ap, cp, rs, rfl, hrd, hls, -⟩ := hu
  have hmx := hrd.len
  rw [hls.1] at hmx
  obtain ⟨N, hN⟩ : ∃ N, out.length = N := ⟨_, rfl⟩
  rw [hN] at hmx ⊢
  have HNN := Lib.hid hN
  have HRD := Lib.hid hrd
  have HLS := Lib.hid hls
  have HOUT := Lib.hid hout
  have H1 := Lib.hid h1
  have H2 := Lib.hid h2
  have R1 := Lib.hid r1
  have R2 := Lib.hid r2
  have CS := Lib.hid (fun (q : Bd) (B1 B2 : Option Addr) (d1 d2 : Nat) (q1 : q.1.length = n) (q2 : q.2.length = n) (w9 : World) (h : Below w.heap.size w w9) (k1 : RdS w9 w9.heap.size 1 enI B1 q.1) (k2 : RdS w9 w9.heap.size 1 enI B2 q.2) (x : Bool) (hx : decide (q = b) = x) =>
    same_s q b n q1 q2 h1 h2 hn B1 B2 A1 A2 d1 d2 c1 c2 w9.heap.size w9 (Nat.le_refl _) k1 k2 ((r1.below h hB).more (Nat.le_trans hB h.size)) ((r2.below h hB).more (Nat.le_trans hB h.size)) x hx)
  clear hN hrd hls hout h1 h2 r1 r2
  go_enter Try.func32, Try.ntmps32
  go_upto_region 1 with (fail)
  refine wp_gen (fun W' => Below w.heap.size w W' ∧ RowB W' w.heap.size 34 [.slice A1 n c1, .slice A2 n c2]) ⟨by go_grown, RowB.new _ _ _⟩ ?_
  rintro w1 ⟨hbW, ra⟩
  obtain ⟨y0, y1⟩ := ra.c2
  have hl1 := ra.lt
  go_wp2_with fail
  go_loopw [5] (fun i wr => ∃ k : Nat, k ≤ N ∧ i = .int .i64 (k : Int) ∧ Hid (Below w.heap.size w wr) ∧ RowB wr w.heap.size 34 [.slice A1 n c1, .slice A2 n c2] ∧ Hid (hasB (out.take k) b = false)) (fun i _ => N - (intOf i).toNat)
  case atStart => exact ⟨0, Nat.zero_le _, by first | rfl | trivial, Lib.hid hbW, ra, Lib.hid rfl⟩
  case round =>
    obtain ⟨k, hk, rfl, hb, ra, hno⟩ := hrel
    clear y0 y1 hl1
    obtain ⟨y0, y1⟩ := ra.c2
    have hl1 := ra.lt
    by_cases hlt : k < N
    · have hst : Still All w wr := Still.below hb.out
      obtain ⟨b1, o1, r, rfl, -, hb1, hr, hc⟩ := (HRD.out.keep hst).at_ (i := k) (by rw [HLS.out.1, HNN.out]; exact hlt)
      obtain ⟨q, hq, hR⟩ := (HLS.out.keep hst).at_ hr
      obtain ⟨ss, bd⟩ := q
      obtain ⟨r0, rl, rm⟩ := r
      have hR1 := hR.2.1
      have hR2 := hR.2.2
      simp only at hR1 hR2
      obtain ⟨B1, d1, rfl, k1, -⟩ := hR1
      obtain ⟨B2, d2, rfl, k2, -⟩ := hR2
      have hln := HOUT.out _ (List.mem_of_getElem? hq)
      simp only at hln
      have hc1 := hc 1 _ rfl
      have hc2 := hc 2 _ rfl
      rw [hln.1] at hc1
      rw [hln.2] at hc2
      have HT := Lib.hid (show out.take (k + 1) = out.take k ++ [(ss, bd)] from take_succ out k _ hq)
      obtain ⟨x, hx⟩ : ∃ x, decide (bd = b) = x := ⟨_, rfl⟩
      have C := Lib.hid (fun W (h : wr = W) => CS.out bd B1 B2 d1 d2 hln.1 hln.2 wr.drew hb.out.drew k1.rd k2.rd x hx)
      have HX := Lib.hid hx
      have hkn : (k : Int) < (N : Int) := by omega
      have hwk : IntKind.i64.wrap ((k : Int) + 1) = (k : Int) + 1 := IntWalk.i64_in _ (by omega)
      clear hst hr hq hR hc k1 k2 hln hx
      go_wp2_with fail
      go_still_tail 6, (by kernel_rfl)
      go_wp2_with fail
      refine (C.out _ rfl).mono ?_
      rintro e w2 ⟨rfl, hb2⟩
      have ra := ra.drew.below hb2 ra.drew.lt
      have hbn := Lib.hid (hb.out.drew.trans (hb2.mono hb.out.drew.size))
      clear y0 y1 hl1 hb hb2 hc1 hc2 C
      obtain ⟨y0, y1⟩ := ra.c2
      have hl1 := ra.lt
      cases x
      case false =>
        have hnN : Hid (hasB (out.take (k + 1)) b = false) := Lib.hid (by rw [HT.out, hasB_snoc, hno.out, HX.out]; rfl)
        go_wp2_with fail
        go_roundw
        case rel => exact ⟨k + 1, by omega, by go_num, hbn, ra, hnN⟩
        case measure => simp [intOf]; omega
      case true =>
        have hY : Hid (hasB out b = true) := Lib.hid (by
          have h0 : hasB (out.take (k + 1)) b = true := by rw [HT.out, hasB_snoc, HX.out, Bool.or_true]
          unfold hasB at h0 ⊢
          obtain ⟨q, hq, he⟩ := List.any_eq_true.1 h0
          exact List.any_eq_true.2 ⟨q, List.mem_of_mem_take hq, he⟩)
        go_wp2_with fail
        go_ret
        exact ⟨(k : Int), rfl, by rw [hY.out]; simp, hbn.out⟩
    · obtain rfl : N = k := by omega
      have hA : Hid (hasB out b = false) := Lib.hid (by rw [← hno.out, ← HNN.out, List.take_length])
      go_wp2_with fail
      go_ret
      exact ⟨-1, rfl, by rw [hA.out]; rfl, hb.out⟩
end Go.Proofs.Ytfgkkmhafdbicaa.Bd11
